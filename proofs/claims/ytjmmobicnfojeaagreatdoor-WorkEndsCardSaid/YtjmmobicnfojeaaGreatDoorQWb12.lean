/- Our texts for this statement, merged: what its theorem leads to. -/
import Derived.Test.YtjmmobicnfojeaaGreatDoorQWb9
set_option linter.unusedVariables false
set_option linter.unusedSimpArgs false
noncomputable section
namespace Go.Ab.Tryz
open Go Go.Ab Go.Proofs
set_option maxRecDepth 10000
set_option maxHeartbeats 4000000
def zgu (a:Node) (b:Node) (γ:Nat → Nat):Bool → X × St
 | a0=>(.ret,⟨bd 4 (vF a0 :: bd 54 []),[.box 34 (zam a),.box 34 (zam b)]⟩)
instance {a b}:InjS (zgu a b):=⟨fun γ γ' x y h=>by
 rcases x with a0 <;> rcases y with a0' <;> simp only [zgu] at h <;> exact inj_⟩
def zt4 (a:Node) (b:Node):Option (Bool):=asks (fun γ=>(lim F pr).seg [4] zyt ⟨bd 2 (.bptr 0 0 :: .bptr 1 0 :: bd 55 []),[.box 34 (zam a),.box 34 (zam b)]⟩) (zgu a b)
def zgs (a:Node) (b:Node) (γ:Nat → Nat):Unit ⊕ Unit → X × St
 | .inl ()=>(.ret,⟨bd 4 (vF false :: bd 54 []),[.box 34 (zam a),.box 34 (zam b)]⟩)
 | .inr ()=>(.brk 0,⟨bd 2 (.bptr 0 0 :: .bptr 1 0 :: bd 55 []),[.box 34 (zam a),.box 34 (zam b)]⟩)
instance {a b}:InjS (zgs a b):=⟨fun γ γ' x y h=>by
 rcases x with _ | _ <;> rcases y with _ | _ <;> simp only [zgs] at h <;> exact inj_⟩
def zld (a:Node) (b:Node) (i:Int):Option (Unit ⊕ Unit):=asks (fun γ=>(lim F pr).loop [5,2,3] 2 ztr ⟨bd 2 (.bptr 0 0 :: .bptr 1 0 :: bd 1 (vI i :: bd 53 [])),[.box 34 (zam a),.box 34 (zam b)]⟩) (zgs a b)
def zgt (a:Node) (b:Node) (γ:Nat → Nat):Unit ⊕ Unit → X × St
 | .inl ()=>(.ret,⟨bd 4 (vF false :: bd 54 []),[.box 34 (zam a),.box 34 (zam b)]⟩)
 | .inr ()=>(.brk 2,⟨bd 59 [],[.box 34 (zam a),.box 34 (zam b)]⟩)
instance {a b}:InjS (zgt a b):=⟨fun γ γ' x y h=>by
 rcases x with _ | _ <;> rcases y with _ | _ <;> simp only [zgt] at h <;> exact inj_⟩
def zle (a:Node) (b:Node) (i:Int):Option (Unit ⊕ Unit):=asks (fun γ=>(lim F pr).loop [2,3,6] 2 zts ⟨bd 2 (.bptr 0 0 :: .bptr 1 0 :: bd 2 (vI i :: bd 52 [])),[.box 34 (zam a),.box 34 (zam b)]⟩) (zgt a b)
def zlT (a:Node) (b:Node):Option (Bool):=
 (zld a b 0).bind fun r=>match r with
  | .inl ()=>
   some false
  | .inr ()=>
   (zle a b 0).bind fun r=>match r with
    | .inl ()=>
     some false
    | .inr ()=>
     some true
theorem zxT {a b r} (h:zlT a b=some r):zt4 a b=some r:=by
 unfold zlT at h
 refine zao fun γ=>?_
 obtain ⟨r1,γ1,h1,h⟩:=zah h (gam [])
 rcases r1 with _ | _
 cases h;refine ⟨gam [],zaj ?_⟩;rotate_left
 obtain ⟨r2,γ2,h2,h⟩:=zah h (gam [])
 rcases r2 with _ | _
 cases h;refine ⟨gam [],zaj ?_⟩;rotate_left
 cases h;refine ⟨gam [],zaj ?_⟩;rotate_left
 all_goals (dsimp only [zgs,zgt,zgu] at *;show Ifc.apart IF_ _ (zEk ztr zts) _=_;generalize ztr=c0,zts=c1 at *;exact fin_)
def ziU (a:Node) (b:Node) (i:Int):Option (Unit ⊕ Unit):=
 bif Ops.std.ilt i (xlen eJob a.jobs) then
  (xget eJob a.jobs i).bind fun x=>
  (xget eJob b.jobs i).bind fun x1=>
  bif Ops.std.ieq x.id x1.id then
   bif Ops.std.ieq x.kind x1.kind then
    bif Ops.std.ieq x.bit x1.bit then
     bif Ops.std.seq x.key x1.key then
      bif Ops.std.seq x.val x1.val then
       bif Ops.std.ieq x.target x1.target then
        bif Ops.std.ieq x.via.id x1.via.id then
         bif Ops.std.ieq x.via.addr x1.via.addr then
          bif Ops.std.ieq x.at_.id x1.at_.id then
           bif Ops.std.ieq x.at_.addr x1.at_.addr then
            bif Ops.std.beq x.doing x1.doing then
             bif Ops.std.ieq x.hops x1.hops then
              bif Ops.std.ieq x.tries x1.tries then
               bif Ops.std.ieq x.due x1.due then zld a b (Ops.std.iadd .i64 i 1) else
               some (.inl ())
              else
               some (.inl ())
             else
              some (.inl ())
            else
             some (.inl ())
           else
            some (.inl ())
          else
           some (.inl ())
         else
          some (.inl ())
        else
         some (.inl ())
       else
        some (.inl ())
      else
       some (.inl ())
     else
      some (.inl ())
    else
     some (.inl ())
   else
    some (.inl ())
  else
   some (.inl ())
 else
  some (.inr ())
theorem zrm {a b i r} (h:ziU a b i=some r):zld a b i=some r:=by
 unfold ziU at h
 refine zao fun γ=>?_
 rcases zaa h with ⟨h1,h⟩ | ⟨h1,h⟩
 obtain ⟨x,h2,h⟩:=zac h
 obtain ⟨x1,h3,h⟩:=zac h
 rcases zaa h with ⟨h4,h⟩ | ⟨h4,h⟩
 rcases zaa h with ⟨h5,h⟩ | ⟨h5,h⟩
 rcases zaa h with ⟨h6,h⟩ | ⟨h6,h⟩
 rcases zaa h with ⟨h7,h⟩ | ⟨h7,h⟩
 rcases zaa h with ⟨h8,h⟩ | ⟨h8,h⟩
 rcases zaa h with ⟨h9,h⟩ | ⟨h9,h⟩
 rcases zaa h with ⟨h10,h⟩ | ⟨h10,h⟩
 rcases zaa h with ⟨h11,h⟩ | ⟨h11,h⟩
 rcases zaa h with ⟨h12,h⟩ | ⟨h12,h⟩
 rcases zaa h with ⟨h13,h⟩ | ⟨h13,h⟩
 rcases zaa h with ⟨h14,h⟩ | ⟨h14,h⟩
 rcases zaa h with ⟨h15,h⟩ | ⟨h15,h⟩
 rcases zaa h with ⟨h16,h⟩ | ⟨h16,h⟩
 rcases zaa h with ⟨h17,h⟩ | ⟨h17,h⟩
 replace h:=zak h (gam []);obtain ⟨γ',h0⟩:=h;refine ⟨γ',zad ?_⟩;rotate_left
 cases h;refine ⟨gam [],zad ?_⟩;rotate_left
 cases h;refine ⟨gam [],zad ?_⟩;rotate_left
 cases h;refine ⟨gam [],zad ?_⟩;rotate_left
 cases h;refine ⟨gam [],zad ?_⟩;rotate_left
 cases h;refine ⟨gam [],zad ?_⟩;rotate_left
 cases h;refine ⟨gam [],zad ?_⟩;rotate_left
 cases h;refine ⟨gam [],zad ?_⟩;rotate_left
 cases h;refine ⟨gam [],zad ?_⟩;rotate_left
 cases h;refine ⟨gam [],zad ?_⟩;rotate_left
 cases h;refine ⟨gam [],zad ?_⟩;rotate_left
 cases h;refine ⟨gam [],zad ?_⟩;rotate_left
 cases h;refine ⟨gam [],zad ?_⟩;rotate_left
 cases h;refine ⟨gam [],zad ?_⟩;rotate_left
 cases h;refine ⟨gam [],zad ?_⟩;rotate_left
 cases h;refine ⟨gam [],zad ?_⟩;rotate_left
 all_goals (dsimp only [zgs] at *;show zaT IF_ _ _ ztr zEi _=_;generalize ztr=c0 at *;exact fin_)
def ziV (a:Node) (b:Node) (i:Int):Option (Unit ⊕ Unit):=
 bif Ops.std.ilt i (xlen zal a.results) then
  (xget zal a.results i).bind fun x=>
  (xget zal b.results i).bind fun x1=>
  bif Ops.std.ieq x.job x1.job then
   bif Ops.std.ieq x.kind x1.kind then
    bif Ops.std.seq x.key x1.key then
     bif Ops.std.seq x.val x1.val then
      bif Ops.std.beq x.has x1.has then
       bif Ops.std.ieq x.err x1.err then zle a b (Ops.std.iadd .i64 i 1) else
       some (.inl ())
      else
       some (.inl ())
     else
      some (.inl ())
    else
     some (.inl ())
   else
    some (.inl ())
  else
   some (.inl ())
 else
  some (.inr ())
theorem zrn {a b i r} (h:ziV a b i=some r):zle a b i=some r:=by
 unfold ziV at h
 refine zao fun γ=>?_
 rcases zaa h with ⟨h1,h⟩ | ⟨h1,h⟩
 obtain ⟨x,h2,h⟩:=zac h
 obtain ⟨x1,h3,h⟩:=zac h
 rcases zaa h with ⟨h4,h⟩ | ⟨h4,h⟩
 rcases zaa h with ⟨h5,h⟩ | ⟨h5,h⟩
 rcases zaa h with ⟨h6,h⟩ | ⟨h6,h⟩
 rcases zaa h with ⟨h7,h⟩ | ⟨h7,h⟩
 rcases zaa h with ⟨h8,h⟩ | ⟨h8,h⟩
 rcases zaa h with ⟨h9,h⟩ | ⟨h9,h⟩
 replace h:=zak h (gam []);obtain ⟨γ',h0⟩:=h;refine ⟨γ',zad ?_⟩;rotate_left
 cases h;refine ⟨gam [],zad ?_⟩;rotate_left
 cases h;refine ⟨gam [],zad ?_⟩;rotate_left
 cases h;refine ⟨gam [],zad ?_⟩;rotate_left
 cases h;refine ⟨gam [],zad ?_⟩;rotate_left
 cases h;refine ⟨gam [],zad ?_⟩;rotate_left
 cases h;refine ⟨gam [],zad ?_⟩;rotate_left
 cases h;refine ⟨gam [],zad ?_⟩;rotate_left
 all_goals (dsimp only [zgt] at *;show zaT IF_ _ _ zts zEj _=_;generalize zts=c0 at *;exact fin_)
def zqA (a:Node) (b:Node):Option (Bool):=
 bif Ops.std.ieq (xlen eJob a.jobs) (xlen eJob b.jobs) then
  bif Ops.std.ieq (xlen zal a.results) (xlen zal b.results) then zt4 a b else
  some false
 else
  some false
theorem zDo {a b r} (h:zqA a b=some r):zuz a b=some r:=by
 unfold zqA at h
 refine zau ?_
 rcases zaa h with ⟨h1,h⟩ | ⟨h1,h⟩
 rcases zaa h with ⟨h2,h⟩ | ⟨h2,h⟩
 obtain ⟨γ1,h3⟩:=zak h (gam [])
 rcases r with t4
 refine zab rfl ?_;rotate_left
 cases h;refine zab rfl ?_;rotate_left
 cases h;refine zab rfl ?_;rotate_left
 all_goals (dsimp only [R1,zgu] at *;show zas IF_ (g73F zyt) _ _=_;generalize zyt=c0 at *;exact fin_)
def zqp (a:Msg) (b:Msg):Option (Bool):=
 bif Ops.std.ieq a.kind b.kind then
  bif Ops.std.ieq a.rid b.rid then
   bif Ops.std.ieq a.code b.code then
    bif Ops.std.beq a.has b.has then
     bif Ops.std.ieq a.id b.id then
      bif Ops.std.seq a.key b.key then
       bif Ops.std.seq a.val b.val then
        bif Ops.std.ieq a.peer.id b.peer.id then
         bif Ops.std.ieq a.peer.addr b.peer.addr then
          (znP a.peers b.peers).bind fun res=>
          bif res then znO a.pairs b.pairs else
          some false
         else
          some false
        else
         some false
       else
        some false
      else
       some false
     else
      some false
    else
     some false
   else
    some false
  else
   some false
 else
  some false
theorem zDc {a b r} (h:zqp a b=some r):zuw a b=some r:=by
 unfold zqp at h
 refine zau ?_
 rcases zaa h with ⟨h1,h⟩ | ⟨h1,h⟩
 rcases zaa h with ⟨h2,h⟩ | ⟨h2,h⟩
 rcases zaa h with ⟨h3,h⟩ | ⟨h3,h⟩
 rcases zaa h with ⟨h4,h⟩ | ⟨h4,h⟩
 rcases zaa h with ⟨h5,h⟩ | ⟨h5,h⟩
 rcases zaa h with ⟨h6,h⟩ | ⟨h6,h⟩
 rcases zaa h with ⟨h7,h⟩ | ⟨h7,h⟩
 rcases zaa h with ⟨h8,h⟩ | ⟨h8,h⟩
 rcases zaa h with ⟨h9,h⟩ | ⟨h9,h⟩
 obtain ⟨res,h10,h⟩:=zac h
 rcases zaa h with ⟨h11,h⟩ | ⟨h11,h⟩
 have h12:=ask_some h
 rcases r with res1
 refine zab rfl ?_;rotate_left
 cases h;refine zab rfl ?_;rotate_left
 cases h;refine zab rfl ?_;rotate_left
 cases h;refine zab rfl ?_;rotate_left
 cases h;refine zab rfl ?_;rotate_left
 cases h;refine zab rfl ?_;rotate_left
 cases h;refine zab rfl ?_;rotate_left
 cases h;refine zab rfl ?_;rotate_left
 cases h;refine zab rfl ?_;rotate_left
 cases h;refine zab rfl ?_;rotate_left
 cases h;refine zab rfl ?_;rotate_left
 all_goals (dsimp only [R1] at *;show zas IF_ g74F _ _=_;exact fin_)
def zof (l:List Job) (id:Int):Option (Int):=
 zno l id
theorem zAA {l id r} (h:zof l id=some r):zlw l id=some r:=by
 unfold zof at h
 refine zau ?_
 have h1:=ask_some h
 rcases r with res
 refine zab rfl ?_;rotate_left
 all_goals (dsimp only [zdw,R1] at *;show zas IF_ zHZ _ _=_;exact fin_)
abbrev zni:=((List Entry) × (List Entry) × (List Pair) × (List Pend) × (List Job) × (List Result) × Node × Job)
def zhQ (n:Node) (γ:Nat → Nat):zni → X × St
 | (a0,a1,a2,a3,a4,a5,a6,a7)=>(.ret,⟨bd 4 (.bptr 8 0 :: vF true :: bd 52 []),[.box 34 (zam n),.row 81 (γ 1) true (List.map zat a0),.row 81 (γ 2) true (List.map zat a1),.row 84 (γ 3) false (List.map zae a6.fingers),.row 78 (γ 4) true (List.map zan a2),.row 88 (γ 5) true (List.map zaX a3),.row 67 (γ 6) true (List.map eJob a4),.row 60 (γ 7) true (List.map zal a5),.box 135 (capp (zaR a6 (.sl 3 ((γ 3)))) (capp (cJob a7) ([.sl 9 ((γ 9))]))),.row 56 (γ 9) false (List.map eOut [])]⟩)
instance {n}:InjS (zhQ n):=⟨fun γ γ' x y h=>by
 rcases x with ⟨a0,a1,a2,a3,a4,a5,a6,a7⟩ <;> rcases y with ⟨a0',a1',a2',a3',a4',a5',a6',a7'⟩ <;> simp only [zhQ] at h <;> exact inj_⟩
def zmr (n:Node) (i:Int) (r1:List Entry) (r2:List Entry) (r4:List Pair) (r5:List Pend) (r6:List Job) (r7:List Result) (b8_node:Node):Option (zni):=asks (fun γ=>(lim F pr).seg [4,5] zyw ⟨bd 6 (.bptr 8 0 :: vI i :: bd 50 []),[.box 34 (zam n),.row 81 (γ 1) true (List.map zat r1),.row 81 (γ 2) true (List.map zat r2),.row 84 (γ 3) false (List.map zae b8_node.fingers),.row 78 (γ 4) true (List.map zan r4),.row 88 (γ 5) true (List.map zaX r5),.row 67 (γ 6) true (List.map eJob r6),.row 60 (γ 7) true (List.map zal r7),.box 135 (capp (zaR b8_node (.sl 3 ((γ 3)))) (capp (cJob (⟨0,0,0,⟨#[]⟩,⟨#[]⟩,0,(⟨0,0⟩:Peer),(⟨0,0⟩:Peer),false,0,0,0⟩:Job)) ([.sl 9 ((γ 9))]))),.row 56 (γ 9) false (List.map eOut [])]⟩) (zhQ n)
def znj (n:Node) (i:Int) (r1:List Entry) (r2:List Entry) (r4:List Pair) (r5:List Pend) (r6:List Job) (r7:List Result) (b8_node:Node):Option (zni):=
 (xget eJob b8_node.jobs i).bind fun x=>
 some (r1,r2,r4,r5,r6,r7,b8_node,x)
theorem zAg {n i r1 r2 r4 r5 r6 r7 b8_node r} (h:znj n i r1 r2 r4 r5 r6 r7 b8_node=some r):zmr n i r1 r2 r4 r5 r6 r7 b8_node=some r:=by
 unfold znj at h
 refine zao fun γ=>?_
 obtain ⟨x,h1,h⟩:=zac h
 cases h;refine ⟨gam [0,(γ 1),(γ 2),(γ 3),(γ 4),(γ 5),(γ 6),(γ 7),0,(γ 9)],zaj ?_⟩;rotate_left
 all_goals (dsimp only [zhQ] at *;show Ifc.apart IF_ _ zEw _=_;exact fin_)
def zs7 (n:Node) (id:Int):Option ((Bool × Node × Job × (List Out))):=
 (zcj n).bind fun ⟨zaF,zav,zaD,zay,zaG,zaC,zaq,zaz,zax,zaB,zar,zaK,zaE,zaw⟩=>
 (zlw zaB id).bind fun res=>
 bif Ops.std.ilt res 0 then
  some (false,(⟨(⟨zaF,zav⟩:Peer),zaD,zay,zaG,zaC,zaq,zaz,zax,zaB,zar,zaK,zaE,zaw⟩:Node),(⟨0,0,0,⟨#[]⟩,⟨#[]⟩,0,(⟨0,0⟩:Peer),(⟨0,0⟩:Peer),false,0,0,0⟩:Job),[])
 else
  (xget eJob zaB res).bind fun x=>
  bif Ops.std.ilt x.kind 1 then
   some (false,(⟨(⟨zaF,zav⟩:Peer),zaD,zay,zaG,zaC,zaq,zaz,zax,zaB,zar,zaK,zaE,zaw⟩:Node),(⟨0,0,0,⟨#[]⟩,⟨#[]⟩,0,(⟨0,0⟩:Peer),(⟨0,0⟩:Peer),false,0,0,0⟩:Job),[])
  else
   bif Ops.std.ilt 4 x.kind then
    some (false,(⟨(⟨zaF,zav⟩:Peer),zaD,zay,zaG,zaC,zaq,zaz,zax,zaB,zar,zaK,zaE,zaw⟩:Node),(⟨0,0,0,⟨#[]⟩,⟨#[]⟩,0,(⟨0,0⟩:Peer),(⟨0,0⟩:Peer),false,0,0,0⟩:Job),[])
   else
    (zmr n res zaG zaC zaz zax zaB zar (⟨(⟨zaF,zav⟩:Peer),zaD,zay,zaG,zaC,zaq,zaz,zax,zaB,zar,zaK,zaE,zaw⟩:Node)).bind fun ⟨r1,r2,r4,r5,r6,r7,b8_node,zEs⟩=>
    some (true,b8_node,zEs,[])
theorem zFR {n id r} (h:zs7 n id=some r):ztN n id=some r:=by
 unfold zs7 at h
 refine zao fun γ=>?_
 obtain ⟨r1,h1,h⟩:=zac h
 rcases r1 with ⟨zaF,zav,zaD,zay,zaG,zaC,zaq,zaz,zax,zaB,zar,zaK,zaE,zaw⟩
 obtain ⟨res,h2,h⟩:=zac h
 rcases zaa h with ⟨h3,h⟩ | ⟨h3,h⟩
 cases h;refine ⟨gam [0,0,0],zab rfl ?_⟩;rotate_left
 obtain ⟨x,h4,h⟩:=zac h
 rcases zaa h with ⟨h5,h⟩ | ⟨h5,h⟩
 cases h;refine ⟨gam [0,0,0],zab rfl ?_⟩;rotate_left
 rcases zaa h with ⟨h6,h⟩ | ⟨h6,h⟩
 cases h;refine ⟨gam [0,0,0],zab rfl ?_⟩;rotate_left
 obtain ⟨r7,γ3,h7,h⟩:=zah h (gam [0,0,0,0,0,0,0,0,0,0])
 rcases r7 with ⟨r1,r2,r4,r5,r6,r7,b8_node,zEs⟩
 cases h;refine ⟨gam [0,(γ3 3),(γ3 9)],zab rfl ?_⟩;rotate_left
 all_goals (dsimp only [R1,zbu,zjC,zhQ] at *;show zas IF_ (g95F zyw) _ _=_;generalize zyw=c0 at *;exact fin_)
def zp6 (n:Node) (j:Job):Option (zp5):=
 (zcj n).bind fun ⟨zaF,zav,zaD,zay,zaG,zaC,zaq,zaz,zax,zaB,zar,zaK,zaE,zaw⟩=>
 (zlw zaB j.id).bind fun res=>
 bif Ops.std.ile 0 res then
  (xget eJob zaB res).bind fun x=>
  some (zaF,zav,zaD,zay,zaG,zaC,zaq,zaz,zax,xset zaB res j,zar,zaK,zaE,zaw)
 else
  some (zaF,zav,zaD,zay,zaG,zaC,zaq,zaz,zax,zaB,zar,zaK,zaE,zaw)
theorem zCS {n j r} (h:zp6 n j=some r):zp4 n j=some r:=by
 unfold zp6 at h
 refine zau ?_
 obtain ⟨r1,h1,h⟩:=zac h
 rcases r1 with ⟨zaF,zav,zaD,zay,zaG,zaC,zaq,zaz,zax,zaB,zar,zaK,zaE,zaw⟩
 obtain ⟨res,h2,h⟩:=zac h
 rcases zaa h with ⟨h3,h⟩ | ⟨h3,h⟩
 obtain ⟨x,h4,h⟩:=zac h
 cases h;refine zab rfl ?_;rotate_left
 cases h;refine zab rfl ?_;rotate_left
 all_goals (dsimp only [R1,zh1,zbu] at *;show zas IF_ zIk _ _=_;exact fin_)
def zkk (b0_node:Node) (b0_job:Job) (r2:List Out):Option ((Node × (List Finger))):=
 (zp4 b0_node b0_job).bind fun ⟨zaF,zav,zaD,zay,zaG,zaC,zaq,zaz,zax,zaB,zar,zaK,zaE,zaw⟩=>
 some ((⟨(⟨zaF,zav⟩:Peer),zaD,zay,zaG,zaC,zaq,zaz,zax,zaB,zar,zaK,zaE,zaw⟩:Node),b0_node.fingers)
theorem zwa {b0_node b0_job r2 r} (h:zkk b0_node b0_job r2=some r):zee b0_node b0_job r2=some r:=by
 unfold zkk at h
 refine zao fun γ=>?_
 obtain ⟨r1,h1,h⟩:=zac h
 rcases r1 with ⟨zaF,zav,zaD,zay,zaG,zaC,zaq,zaz,zax,zaB,zar,zaK,zaE,zaw⟩
 cases h;refine ⟨gam [0,γ 1,γ 2,0],zab rfl ?_⟩;rotate_left
 all_goals (dsimp only [zh1,zds] at *;show zas IF_ zCH _ _=_;exact fin_)
def zlK (n:Node) (id:Int) (has:Bool) (val:ByteArray) (e_:Int):Option (Node):=
 (zcj n).bind fun ⟨zaF,zav,zaD,zay,zaG,zaC,zaq,zaz,zax,zaB,zar,zaK,zaE,zaw⟩=>
 (zlw zaB id).bind fun res=>
 bif Ops.std.ilt res 0 then
  some (⟨(⟨zaF,zav⟩:Peer),zaD,zay,zaG,zaC,zaq,zaz,zax,zaB,zar,zaK,zaE,zaw⟩:Node)
 else
  (xget eJob zaB res).bind fun x=>
  (zpE res (Ops.std.iadd .i64 res 1) zaB).bind fun r0=>
  (zr6 x has val e_ zaF zav zaD zay zaK zaE zaw zaG zaC zaq zaz zax r0 zar).bind fun r=>match r with
   | .inl (r7,r8)=>
    some (⟨(⟨zaF,zav⟩:Peer),zaD,zay,zaG,zaC,zaq,zaz,zax,r0,r8,zaK,zaE,zaw⟩:Node)
   | .inr ()=>
    some (⟨(⟨zaF,zav⟩:Peer),zaD,zay,zaG,zaC,zaq,zaz,zax,r0,zar,zaK,zaE,zaw⟩:Node)
theorem zxK {n id has val e_ r} (h:zlK n id has val e_=some r):ziv n id has val e_=some r:=by
 unfold zlK at h
 refine zau ?_
 obtain ⟨r1,h1,h⟩:=zac h
 rcases r1 with ⟨zaF,zav,zaD,zay,zaG,zaC,zaq,zaz,zax,zaB,zar,zaK,zaE,zaw⟩
 obtain ⟨res,h2,h⟩:=zac h
 rcases zaa h with ⟨h3,h⟩ | ⟨h3,h⟩
 cases h;refine zab rfl ?_;rotate_left
 obtain ⟨x,h4,h⟩:=zac h
 obtain ⟨r0,γ3,h5,h⟩:=zah h (gam [0])
 obtain ⟨r6,γ4,h6,h⟩:=zah h (gam [0,0,0,0,0,0,(γ3 0),0])
 rcases r6 with ⟨r7,r8⟩ | _
 cases h;refine zab rfl ?_;rotate_left
 cases h;refine zab rfl ?_;rotate_left
 all_goals (dsimp only [zg4,R1,ziw,zbu] at *;show zas IF_ zIa _ _=_;exact fin_)
def zhW (has:Bool) (val:ByteArray) (e_:Int) (b0_node:Node) (b0_job:Job) (r2:List Out):Option ((Node × (List Finger))):=
 (ziv b0_node b0_job.id has val e_).bind fun res=>
 some (res,b0_node.fingers)
theorem zta {has val e_ b0_node b0_job r2 r} (h:zhW has val e_ b0_node b0_job r2=some r):zca has val e_ b0_node b0_job r2=some r:=by
 unfold zhW at h
 refine zao fun γ=>?_
 obtain ⟨res,h1,h⟩:=zac h
 cases h;refine ⟨gam [0,γ 1,γ 2],zab rfl ?_⟩;rotate_left
 all_goals (dsimp only [R1,zbN] at *;show zas IF_ zyx _ _=_;exact fin_)
def zqh (n:Node) (to_:Peer) (m:Msg) (why:Int) (job:Int):Option ((Node × (List Out))):=
 (zcj n).bind fun ⟨zaF,zav,zaD,zay,zaG,zaC,zaq,zaz,zax,zaB,zar,zaK,zaE,zaw⟩=>
 bif Ops.std.ile 64 (xlen zaX zax) then
  some ((⟨(⟨zaF,zav⟩:Peer),zaD,zay,zaG,zaC,zaq,zaz,zax,zaB,zar,zaK,zaE,zaw⟩:Node),[])
 else
  (zuu m).bind fun res=>
  (zqi (⟨(⟨zaF,zav⟩:Peer),zaD,zay,zaG,zaC,zaq,zaz,zax,zaB,zar,Ops.std.iadd .u32 zaK 1,zaE,zaw⟩:Node)).bind fun res1=>
  bif zaV zaX 56 zax [(⟨Ops.std.iadd .u32 zaK 1,res.kind,why,job,to_,Ops.std.iadd .i64 res1 8⟩:Pend)] then
   some ((⟨(⟨zaF,zav⟩:Peer),zaD,zay,zaG,zaC,zaq,zaz,(zax ++ [(⟨Ops.std.iadd .u32 zaK 1,res.kind,why,job,to_,Ops.std.iadd .i64 res1 8⟩:Pend)]),zaB,zar,Ops.std.iadd .u32 zaK 1,zaE,zaw⟩:Node),[(⟨to_,(⟨res.kind,Ops.std.iadd .u32 zaK 1,res.code,res.has,res.id,res.key,res.val,res.peer,res.peers,res.pairs⟩:Msg)⟩:Out)])
  else
   none
theorem zC2 {n to_ m why job r} (h:zqh n to_ m why job=some r):zmR n to_ m why job=some r:=by
 unfold zqh at h
 refine zau ?_
 obtain ⟨r1,h1,h⟩:=zac h
 rcases r1 with ⟨zaF,zav,zaD,zay,zaG,zaC,zaq,zaz,zax,zaB,zar,zaK,zaE,zaw⟩
 rcases zaa h with ⟨h2,h⟩ | ⟨h2,h⟩
 cases h;refine zab rfl ?_;rotate_left
 obtain ⟨res,h3,h⟩:=zac h
 obtain ⟨res1,h4,h⟩:=zac h
 obtain ⟨h5,h⟩:=zaH h
 cases h;refine zab rfl ?_;rotate_left
 all_goals (dsimp only [R1,R2,zbu] at *;show zas IF_ g80F _ _=_;exact fin_)
def zjo (n:Node) (out:List Out) (b0_node:Node) (b0_job:Job) (r2:List Out):Option (((List Finger) × (List Out))):=
 bif zaV eOut 136 r2 out then some (b0_node.fingers,(r2 ++ out)) else
 none
theorem zuW {n out b0_node b0_job r2 r} (h:zjo n out b0_node b0_job r2=some r):zfI n out b0_node b0_job r2=some r:=by
 unfold zjo at h
 refine zao fun γ=>?_
 obtain ⟨h1,h⟩:=zaH h
 cases h;refine ⟨gam [0,γ 1,(γ 2 + 1)],zab rfl ?_⟩;rotate_left
 all_goals (dsimp only [zcb] at *;show zas IF_ zH9 _ _=_;exact fin_)
def zn3 (to_:Peer) (m:Msg) (why:Int) (b0_node:Node) (b0_job:Job) (r2:List Out):Option (zkf):=
 (zee b0_node (⟨b0_job.id,b0_job.kind,b0_job.bit,b0_job.key,b0_job.val,b0_job.target,b0_job.via,to_,b0_job.doing,b0_job.hops,b0_job.tries,b0_job.due⟩:Job) r2).bind fun ⟨b0_node1,r1⟩=>
 (zmR b0_node1 to_ m why b0_job.id).bind fun ⟨r0,r11⟩=>
 (zfI r0 r11 b0_node1 (⟨b0_job.id,b0_job.kind,b0_job.bit,b0_job.key,b0_job.val,b0_job.target,b0_job.via,to_,b0_job.doing,b0_job.hops,b0_job.tries,b0_job.due⟩:Job) r2).bind fun ⟨r12,r21⟩=>
 some (r0,(⟨b0_job.id,b0_job.kind,b0_job.bit,b0_job.key,b0_job.val,b0_job.target,b0_job.via,to_,b0_job.doing,b0_job.hops,b0_job.tries,b0_job.due⟩:Job),r1,r21)
theorem zv9 {to_ m why b0_node b0_job r2 r} (h:zn3 to_ m why b0_node b0_job r2=some r):zed to_ m why b0_node b0_job r2=some r:=by
 unfold zn3 at h
 refine zao fun γ=>?_
 obtain ⟨r1,γ1,h1,h⟩:=zah h (gam [0,γ 1,γ 2])
 rcases r1 with ⟨b0_node1,r1⟩
 obtain ⟨r2,h2,h⟩:=zac h
 rcases r2 with ⟨r0,r11⟩
 obtain ⟨r3,γ3,h3,h⟩:=zah h (gam [0,(γ1 3),(γ1 2)])
 rcases r3 with ⟨r12,r21⟩
 cases h;refine ⟨gam [0,(γ1 1),(γ3 2)],zab rfl ?_⟩;rotate_left
 all_goals (dsimp only [R2,zdq,zds,zcb] at *;show zas IF_ zCK _ _=_;exact fin_)
def znn (to_:Peer) (b0_node:Node) (b0_job:Job) (r2:List Out):Option (zjk):=
 zed to_ (⟨1,0,0,false,b0_job.target,⟨#[]⟩,⟨#[]⟩,(⟨0,0⟩:Peer),[],[]⟩:Msg) 4 b0_node b0_job r2
theorem zuU {to_ b0_node b0_job r2 r} (h:znn to_ b0_node b0_job r2=some r):zk0 to_ b0_node b0_job r2=some r:=by
 unfold znn at h
 refine zao fun γ=>?_
 obtain ⟨γ1,h1⟩:=zak h (gam [0,γ 1,γ 2])
 rcases r with ⟨b0_node1,zbm,r1,r21⟩
 refine ⟨gam [0,(γ1 1),(γ1 2)],zab rfl ?_⟩;rotate_left
 all_goals (dsimp only [zdq,zdX] at *;show zas IF_ zCI _ _=_;exact fin_)
abbrev zj1:=(Int × Int × (List Peer)) ⊕ ((List Peer) × (List Peer))
def zeu (n:Node) (γ:Nat → Nat):zj1 → X × St
 | .inl (a0,a1,a2)=>(.ret,⟨bd 4 (.bptr 1 0 :: .sl 4 ((γ 4)) :: vF true :: bd 49 []),[.box 34 (zam n),.box 25 [vU a0,vH a1],.row 25 (γ 2) false (List.map zai []),.row 25 (γ 3) false (List.map zai a2),.row 25 (γ 4) false (List.map zai [])]⟩)
 | .inr (b0,b1)=>(.ret,⟨bd 4 (.bptr 1 0 :: .lit 25 false (List.map zai b0) :: vF false :: bd 49 []),[.box 34 (zam n),.box 25 [vU 0,vH 0],.row 25 (γ 2) false (List.map zai []),.row 25 (γ 3) false (List.map zai b1)]⟩)
instance {n}:InjS (zeu n):=⟨fun γ γ' x y h=>by
 rcases x with ⟨a0,a1,a2⟩ | ⟨b0,b1⟩ <;> rcases y with ⟨a0',a1',a2'⟩ | ⟨b0',b1'⟩ <;> simp only [zeu] at h <;> exact inj_⟩
def zlZ (n:Node) (key:Int) (r3:List Peer):Option (zj1):=asks (fun γ=>(lim F pr).seg [4,5,6] zu8 ⟨bd 1 (vU key :: .bptr 0 0 :: bd 1 (.bptr 1 0 :: bd 2 (.sl 3 ((γ 3)) :: bd 48 []))),[.box 34 (zam n),.box 25 [vU 0,vH 0],.row 25 (γ 2) false (List.map zai []),.row 25 (γ 3) false (List.map zai r3)]⟩) (zeu n)
def zj2 (n:Node) (key:Int) (r3:List Peer):Option (zj1):=
 (xget zai r3 0).bind fun x=>
 (zjA n.me.id key x.id).bind fun res=>
 bif res then some (.inl (x.id,x.addr,r3)) else
 (zm6 n key).bind fun res1=>
 bif res1 then some (.inl (n.me.id,n.me.addr,r3)) else
 (zpW n.me n.list n.fingers key 4).bind fun res2=>
 bif Ops.std.ilt 0 (xlen zai res2) then some (.inr (res2,r3)) else
 some (.inl (n.me.id,n.me.addr,r3))
theorem zvT {n key r3 r} (h:zj2 n key r3=some r):zlZ n key r3=some r:=by
 unfold zj2 at h
 refine zao fun γ=>?_
 obtain ⟨x,h1,h⟩:=zac h
 obtain ⟨res,h2,h⟩:=zac h
 rcases zaa h with ⟨h3,h⟩ | ⟨h3,h⟩
 cases h;refine ⟨gam [0,0,(γ 2),(γ 3),0],zaj ?_⟩;rotate_left
 obtain ⟨res1,h4,h⟩:=zac h
 rcases zaa h with ⟨h5,h⟩ | ⟨h5,h⟩
 cases h;refine ⟨gam [0,0,(γ 2),(γ 3),0],zaj ?_⟩;rotate_left
 obtain ⟨res2,h6,h⟩:=zac h
 rcases zaa h with ⟨h7,h⟩ | ⟨h7,h⟩
 cases h;refine ⟨gam [0,0,(γ 2),(γ 3)],zaj ?_⟩;rotate_left
 cases h;refine ⟨gam [0,0,(γ 2),(γ 3),0],zaj ?_⟩;rotate_left
 all_goals (dsimp only [R1,zeu] at *;show Ifc.apart IF_ _ zBp _=_;exact fin_)
def zm5 (n:Node) (key:Int):Option ((Peer × (List Peer) × Bool)):=
 (zjK n.list).bind fun res=>
 bif Ops.std.ieq (xlen zai res) 0 then some (n.me,[],true) else
 bif Ops.std.ieq key n.me.id then some (n.me,[],true) else
 (zlZ n key res).bind fun r=>match r with
  | .inl (zvk,zpa,r3)=>
   some ((⟨zvk,zpa⟩:Peer),[],true)
  | .inr (t5,r3)=>
   some ((⟨0,0⟩:Peer),t5,false)
theorem zzO {n key r} (h:zm5 n key=some r):zqQ n key=some r:=by
 unfold zm5 at h
 refine zau ?_
 obtain ⟨res,h1,h⟩:=zac h
 rcases zaa h with ⟨h2,h⟩ | ⟨h2,h⟩
 cases h;refine zab rfl ?_;rotate_left
 rcases zaa h with ⟨h3,h⟩ | ⟨h3,h⟩
 cases h;refine zab rfl ?_;rotate_left
 obtain ⟨r4,γ2,h4,h⟩:=zah h (gam [0,0,0,0])
 rcases r4 with ⟨zvk,zpa,r3⟩ | ⟨t5,r3⟩
 cases h;refine zab rfl ?_;rotate_left
 cases h;refine zab rfl ?_;rotate_left
 all_goals (dsimp only [K1,R3,zeu] at *;show zas IF_ (zHA zu8) _ _=_;generalize zu8=c0 at *;exact fin_)
def zir (b0_node:Node) (b0_job:Job) (r2:List Out):Option ((Node × (List Finger))):=
 (zp4 b0_node b0_job).bind fun ⟨zaF,zav,zaD,zay,zaG,zaC,zaq,zaz,zax,zaB,zar,zaK,zaE,zaw⟩=>
 some ((⟨(⟨zaF,zav⟩:Peer),zaD,zay,zaG,zaC,zaq,zaz,zax,zaB,zar,zaK,zaE,zaw⟩:Node),b0_node.fingers)
theorem ztS {b0_node b0_job r2 r} (h:zir b0_node b0_job r2=some r):zdr b0_node b0_job r2=some r:=by
 unfold zir at h
 refine zao fun γ=>?_
 obtain ⟨r1,h1,h⟩:=zac h
 rcases r1 with ⟨zaF,zav,zaD,zay,zaG,zaC,zaq,zaz,zax,zaB,zar,zaK,zaE,zaw⟩
 cases h;refine ⟨gam [0,γ 1,γ 2,0],zab rfl ?_⟩;rotate_left
 all_goals (dsimp only [zh1,zcy] at *;show zas IF_ zCH _ _=_;exact fin_)
def zkd (to_:Peer) (b0_node:Node) (b0_job:Job) (r2:List Out):Option (zkc):=
 bif Ops.std.ieq b0_job.kind 2 then
  zed to_ (⟨7,0,0,false,0,b0_job.key,b0_job.val,(⟨0,0⟩:Peer),[],[]⟩:Msg) 5 b0_node (⟨b0_job.id,b0_job.kind,b0_job.bit,b0_job.key,b0_job.val,b0_job.target,b0_job.via,b0_job.at_,true,b0_job.hops,b0_job.tries,b0_job.due⟩:Job) r2
 else
  bif Ops.std.ieq b0_job.kind 3 then
   zed to_ (⟨8,0,0,false,0,b0_job.key,⟨#[]⟩,(⟨0,0⟩:Peer),[],[]⟩:Msg) 5 b0_node (⟨b0_job.id,b0_job.kind,b0_job.bit,b0_job.key,b0_job.val,b0_job.target,b0_job.via,b0_job.at_,true,b0_job.hops,b0_job.tries,b0_job.due⟩:Job) r2
  else
   zed to_ (⟨3,0,0,false,0,⟨#[]⟩,⟨#[]⟩,(⟨0,0⟩:Peer),[],[]⟩:Msg) 5 b0_node (⟨b0_job.id,b0_job.kind,b0_job.bit,b0_job.key,b0_job.val,b0_job.target,b0_job.via,b0_job.at_,true,b0_job.hops,b0_job.tries,b0_job.due⟩:Job) r2
theorem zv8 {to_ b0_node b0_job r2 r} (h:zkd to_ b0_node b0_job r2=some r):zi5 to_ b0_node b0_job r2=some r:=by
 unfold zkd at h
 refine zao fun γ=>?_
 rcases zaa h with ⟨h1,h⟩ | ⟨h1,h⟩
 obtain ⟨γ1,h2⟩:=zak h (gam [0,γ 1,γ 2])
 rcases r with ⟨b0_node1,zbm,r1,r21⟩
 refine ⟨gam [0,(γ1 1),(γ1 2)],zab rfl ?_⟩;rotate_left
 rcases zaa h with ⟨h2,h⟩ | ⟨h2,h⟩
 obtain ⟨γ1,h3⟩:=zak h (gam [0,γ 1,γ 2])
 rcases r with ⟨b0_node1,zbm,r1,r21⟩
 refine ⟨gam [0,(γ1 1),(γ1 2)],zab rfl ?_⟩;rotate_left
 obtain ⟨γ1,h3⟩:=zak h (gam [0,γ 1,γ 2])
 rcases r with ⟨b0_node1,zbm,r1,r21⟩
 refine ⟨gam [0,(γ1 1),(γ1 2)],zab rfl ?_⟩;rotate_left
 all_goals (dsimp only [zdp,zdq] at *;show zas IF_ zH1 _ _=_;exact fin_)
def zki (f:Finger) (b1_node:Node) (b1_job:Job) (r3:List Out):Option (Bool):=
 some (Ops.std.ieq f.bit b1_job.bit)
theorem zkj {f b1_node b1_job r3 r} (h:zki f b1_node b1_job r3=some r):zde f b1_node b1_job r3=some r:=by
 unfold zki at h
 refine zko fun γ=>?_
 cases h;refine zab rfl ?_;rotate_left
 all_goals (dsimp only [zbV] at *;show zas IF_ zIm _ _=_;exact fin_)
def zcd (b2_node:Node) (za1:Job) (r3:List Out) (γ:Nat → Nat):Int ⊕ Unit → X × St
 | .inl a0=>(.ret,⟨bd 4 (vI a0 :: bd 14 []),[.row 84 (γ 0) false (List.map zae b2_node.fingers),.box 120 [.bptr 2 0],.box 135 (capp (zaR b2_node (.sl 0 ((γ 0)))) (capp (cJob za1) ([.sl 3 ((γ 3))]))),.row 56 (γ 3) false (List.map eOut r3)]⟩)
 | .inr ()=>(.brk 0,⟨bd 19 [],[.row 84 (γ 0) false (List.map zae b2_node.fingers),.box 120 [.bptr 2 0],.box 135 (capp (zaR b2_node (.sl 0 ((γ 0)))) (capp (cJob za1) ([.sl 3 ((γ 3))]))),.row 56 (γ 3) false (List.map eOut r3)]⟩)
instance {b2_node za1 r3}:InjS (zcd b2_node za1 r3):=⟨fun γ γ' x y h=>by
 rcases x with a0 | _ <;> rcases y with a0' | _ <;> simp only [zcd] at h <;> exact inj_⟩
def zd0 (b2_node:Node) (za1:Job) (r3:List Out) (t8:Int):Option (Int ⊕ Unit):=askg (fun γ=>(lim F pr).loop [7,1,0,8] 4 zdx ⟨.sl 0 ((γ 0)) :: .fn 214 [.bptr 1 0] :: bd 5 (vI (xlen zae b2_node.fingers) :: vI t8 :: bd 10 []),[.row 84 (γ 0) false (List.map zae b2_node.fingers),.box 120 [.bptr 2 0],.box 135 (capp (zaR b2_node (.sl 0 ((γ 0)))) (capp (cJob za1) ([.sl 3 ((γ 3))]))),.row 56 (γ 3) false (List.map eOut r3)]⟩) (zcd b2_node za1 r3)
def zcc (b2_node:Node) (za1:Job) (r3:List Out) (t8:Int):Option (Int ⊕ Unit):=
 bif Ops.std.ilt t8 (xlen zae b2_node.fingers) then
  (xget zae b2_node.fingers t8).bind fun x=>
  (zde x b2_node za1 r3).bind fun res=>
  bif res then some (.inl t8) else
  zd0 b2_node za1 r3 (Ops.std.iadd .i64 t8 1)
 else
  some (.inr ())
theorem zeT {b2_node za1 r3 t8 r} (h:zcc b2_node za1 r3 t8=some r):zd0 b2_node za1 r3 t8=some r:=by
 unfold zcc at h
 refine zko fun γ=>?_
 rcases zaa h with ⟨h1,h⟩ | ⟨h1,h⟩
 obtain ⟨x,h2,h⟩:=zac h
 obtain ⟨res,h3,h⟩:=zfK h (gam [0,0,(γ 0),(γ 3)])
 rcases zaa h with ⟨h4,h⟩ | ⟨h4,h⟩
 cases h;refine zad ?_;rotate_left
 have h0:=znq h (gam [(γ 0),0,0,(γ 3)]);clear h;refine zad ?_;rotate_left
 cases h;refine zad ?_;rotate_left
 all_goals (dsimp only [zcd,zbV] at *;show zaT IF_ _ _ zdx ztk _=_;generalize zdx=c0 at *;exact fin_)
def zg7 (b2_node:Node) (za1:Job) (r3:List Out):Option (Int):=
 (zd0 b2_node za1 r3 0).bind fun r=>match r with
  | .inl t4=>
   some t4
  | .inr ()=>
   some (-1)
theorem zrE {b2_node za1 r3 r} (h:zg7 b2_node za1 r3=some r):zi7 b2_node za1 r3=some r:=by
 unfold zg7 at h
 refine zko fun γ=>?_
 obtain ⟨r1,h1,h⟩:=zfK h (gam [γ 0,0,0,γ 3])
 rcases r1 with t4 | _
 cases h;refine zab rfl ?_;rotate_left
 cases h;refine zab rfl ?_;rotate_left
 all_goals (dsimp only [zcZ,zcd] at *;show zas IF_ (zyy zdx) _ _=_;generalize zdx=c0 at *;exact fin_)
def zb4 (za1:Job) (r3:List Out) (γ:Nat → Nat):(Int × Node) → X × St
 | (a0,a1)=>(.brk 0,⟨.sl 0 ((γ 0)) :: bd 4 (vI a0 :: bd 36 []),[.row 84 (γ 0) false (List.map zae a1.fingers),.box 120 [.bptr 2 0],.box 135 (capp (zaR a1 (.sl 0 ((γ 0)))) (capp (cJob za1) ([.sl 3 ((γ 3))]))),.row 56 (γ 3) false (List.map eOut r3),.row 84 (γ 4) false (List.map zae [])]⟩)
instance {za1 r3}:InjS (zb4 za1 r3):=⟨fun γ γ' x y h=>by
 rcases x with ⟨a0,a1⟩ <;> rcases y with ⟨a0',a1'⟩ <;> simp only [zb4] at h <;> exact inj_⟩
def zbP (za1:Job) (r3:List Out) (i:Int) (j:Int) (b2_node':Node):Option ((Int × Node)):=asks (fun γ=>(lim F pr).loop [1,6,0,5] 5 zpd ⟨.sl 0 ((γ 0)) :: .fn 214 [.bptr 1 0] :: bd 3 (vI i :: vI j :: bd 35 []),[.row 84 (γ 0) false (List.map zae b2_node'.fingers),.box 120 [.bptr 2 0],.box 135 (capp (zaR b2_node' (.sl 0 ((γ 0)))) (capp (cJob za1) ([.sl 3 ((γ 3))]))),.row 56 (γ 3) false (List.map eOut r3),.row 84 (γ 4) false (List.map zae [])]⟩) (zb4 za1 r3)
def zbB (za1:Job) (r3:List Out) (i:Int) (j:Int) (b2_node':Node):Option ((Int × Node)):=
 bif Ops.std.ilt j (xlen zae b2_node'.fingers) then
  (xget zae b2_node'.fingers j).bind fun x=>
  (zde x b2_node' za1 r3).bind fun res=>
  bif res then zbP za1 r3 i (Ops.std.iadd .i64 j 1) b2_node' else
  (xget zae b2_node'.fingers i).bind fun x1=>
  zbP za1 r3 (Ops.std.iadd .i64 i 1) (Ops.std.iadd .i64 j 1) (⟨b2_node'.me,b2_node'.clock,b2_node'.joined,b2_node'.pred,b2_node'.list,xset b2_node'.fingers i x,b2_node'.store,b2_node'.pends,b2_node'.jobs,b2_node'.results,b2_node'.rid,b2_node'.jobID,b2_node'.nextBit⟩:Node)
 else
  some (i,b2_node')
theorem zcR {za1 r3 i j b2_node' r} (h:zbB za1 r3 i j b2_node'=some r):zbP za1 r3 i j b2_node'=some r:=by
 unfold zbB at h
 refine zao fun γ=>?_
 rcases zaa h with ⟨h1,h⟩ | ⟨h1,h⟩
 obtain ⟨x,h2,h⟩:=zac h
 obtain ⟨res,h3,h⟩:=zfK h (gam [0,0,(γ 0),(γ 3)])
 rcases zaa h with ⟨h4,h⟩ | ⟨h4,h⟩
 replace h:=zak h (gam [(γ 0),0,0,(γ 3),(γ 4)]);obtain ⟨γ',h0⟩:=h;refine ⟨γ',zad ?_⟩;rotate_left
 obtain ⟨x1,h5,h⟩:=zac h
 replace h:=zak h (gam [(γ 0),0,0,(γ 3),(γ 4)]);obtain ⟨γ',h0⟩:=h;refine ⟨γ',zad ?_⟩;rotate_left
 cases h;refine ⟨gam [(γ 0),0,0,(γ 3),(γ 4)],zad ?_⟩;rotate_left
 all_goals (dsimp only [zb4,zbV] at *;show zaT IF_ _ _ zpd zBR _=_;generalize zpd=c0 at *;exact fin_)
def zgR (b2_node:Node) (za1:Job) (r3:List Out):Option (zgQ):=
 (zi7 b2_node za1 r3).bind fun res=>
 bif Ops.std.ieq res (-1) then
  some (b2_node.fingers,b2_node.me.id,b2_node.me.addr,b2_node.clock,b2_node.joined,b2_node.pred,b2_node.list,b2_node.store,b2_node.pends,b2_node.jobs,b2_node.results,b2_node.rid,b2_node.jobID,b2_node.nextBit)
 else
  (zbP za1 r3 res (Ops.std.iadd .i64 res 1) b2_node).bind fun ⟨i,b2_node'⟩=>
  (xsub zae b2_node'.fingers i (xlen zae b2_node'.fingers)).bind fun ys=>
  (xsub zae (xfil b2_node'.fingers i (xlen zae b2_node'.fingers) (⟨0,(⟨0,0⟩:Peer)⟩:Finger)) 0 i).bind fun ys1=>
  bif Ops.std.ieq 0 0 then
   some (ys1,b2_node'.me.id,b2_node'.me.addr,b2_node'.clock,b2_node'.joined,b2_node'.pred,b2_node'.list,b2_node'.store,b2_node'.pends,b2_node'.jobs,b2_node'.results,b2_node'.rid,b2_node'.jobID,b2_node'.nextBit)
  else
   none
theorem zrA {b2_node za1 r3 r} (h:zgR b2_node za1 r3=some r):zin b2_node za1 r3=some r:=by
 unfold zgR at h
 refine zao fun γ=>?_
 obtain ⟨res,h1,h⟩:=zfK h (gam [γ 0,0,0,γ 3])
 rcases zaa h with ⟨h2,h⟩ | ⟨h2,h⟩
 cases h;refine ⟨gam [γ 0,0,0,γ 3,0,0,0,0,0,0,0,0,0,0,0,0,0,0,0,0,0,0,0,0,0,0,0,0,0,0,0,0,0,0,0,0,0,0,0,0,γ 0],zab rfl ?_⟩;rotate_left
 obtain ⟨r3,γ2,h3,h⟩:=zah h (gam [γ 0,0,0,γ 3,0])
 rcases r3 with ⟨i,b2_node'⟩
 obtain ⟨ys,h4,h⟩:=zac h
 obtain ⟨ys1,h5,h⟩:=zac h
 obtain ⟨h6,h⟩:=zaH h
 cases h;refine ⟨gam [((γ2 0) + 1),0,0,(γ2 3),0,0,0,0,0,0,0,0,0,0,0,0,0,0,0,0,0,0,0,0,0,0,0,0,0,0,0,0,0,0,0,0,0,0,0,0,(γ2 0)],zab rfl ?_⟩;rotate_left
 all_goals (dsimp only [zcD,zb4,zcZ] at *;show zas IF_ (zIl zpd) _ _=_;generalize zpd=c0 at *;exact fin_)
def ze4 (bit:Int) (p:Peer) (γ:Nat → Nat):(List Finger) → X × St
 | a0=>(.ret,⟨bd 6 (.sl 3 ((γ 3)) :: bd 37 []),[.box 3 [vI bit],.box 25 [vU p.id,vH p.addr],.row 84 (γ 2) false (List.map zae []),.row 84 (γ 3) false (List.map zae a0)]⟩)
instance {bit p}:InjS (ze4 bit p):=⟨fun γ γ' x y h=>by
 rcases x with a0 <;> rcases y with a0' <;> simp only [ze4] at h <;> exact inj_⟩
def zrZ (l:List Finger) (bit:Int) (p:Peer):Option ((List Finger)):=asks (fun γ=>(lim F pr).seg [6] zvl ⟨bd 4 (.bptr 0 0 :: .bptr 1 0 :: bd 1 (.sl 3 ((γ 3)) :: bd 36 [])),[.box 3 [vI bit],.box 25 [vU p.id,vH p.addr],.row 84 (γ 2) false (List.map zae []),.row 84 (γ 3) false (List.map zae l)]⟩) (ze4 bit p)
def zkv (l:List Finger) (bit:Int) (p:Peer):Option ((List Finger)):=
 (zg5 l bit).bind fun res=>
 bif Ops.std.ile 0 res then
  (xget zae l res).bind fun x=>
  some (xset l res (⟨x.bit,p⟩:Finger))
 else
  (zg6 l bit).bind fun res1=>
  bif Ops.std.ilt res1 0 then
   bif zaV zae 24 l [(⟨bit,p⟩:Finger)] then
    (xsub zae l 0 (xlen zae l)).bind fun ys=>
    (xsub zae l (xlen zae l) (xlen zae l)).bind fun ys1=>
    some (ys ++ ([(⟨bit,p⟩:Finger)] ++ ys1))
   else
    none
  else
   bif zaV zae 24 l [(⟨bit,p⟩:Finger)] then
    (xsub zae l 0 res1).bind fun ys=>
    (xsub zae l res1 (xlen zae l)).bind fun ys1=>
    some (ys ++ ([(⟨bit,p⟩:Finger)] ++ ys1))
   else
    none
theorem zwp {l bit p r} (h:zkv l bit p=some r):zrZ l bit p=some r:=by
 unfold zkv at h
 refine zao fun γ=>?_
 obtain ⟨res,h1,h⟩:=zfK h (gam [(γ 3),0])
 rcases zaa h with ⟨h2,h⟩ | ⟨h2,h⟩
 obtain ⟨x,h3,h⟩:=zac h
 cases h;refine ⟨gam [0,0,(γ 2),(γ 3)],zaj ?_⟩;rotate_left
 obtain ⟨res1,h3,h⟩:=zfK h (gam [(γ 3),0])
 rcases zaa h with ⟨h4,h⟩ | ⟨h4,h⟩
 obtain ⟨h5,h⟩:=zaH h
 obtain ⟨ys,h6,h⟩:=zac h
 obtain ⟨ys1,h7,h⟩:=zac h
 cases h;refine ⟨gam [0,0,(γ 2),((γ 3) + 1)],zaj ?_⟩;rotate_left
 obtain ⟨h5,h⟩:=zaH h
 obtain ⟨ys,h6,h⟩:=zac h
 obtain ⟨ys1,h7,h⟩:=zac h
 cases h;refine ⟨gam [0,0,(γ 2),((γ 3) + 1)],zaj ?_⟩;rotate_left
 all_goals (dsimp only [zcr,zcs,ze4] at *;show Ifc.apart IF_ _ zBS _=_;exact fin_)
def zob (l:List Finger) (bit:Int) (p:Peer):Option ((List Finger)):=
 bif zaV zae 24 [] l then
  bif Ops.std.ilt bit 0 then some l else
  bif Ops.std.ilt 63 bit then some l else
  zrZ l bit p
 else
  none
theorem zAu {l bit p r} (h:zob l bit p=some r):zrY l bit p=some r:=by
 unfold zob at h
 refine zau ?_
 obtain ⟨h1,h⟩:=zaH h
 rcases zaa h with ⟨h2,h⟩ | ⟨h2,h⟩
 cases h;refine zab rfl ?_;rotate_left
 rcases zaa h with ⟨h3,h⟩ | ⟨h3,h⟩
 cases h;refine zab rfl ?_;rotate_left
 obtain ⟨γ1,h4⟩:=zak h (gam [0,0,0,0])
 rcases r with r3
 refine zab rfl ?_;rotate_left
 all_goals (dsimp only [R1,ze4] at *;show zas IF_ (zIn zvl) _ _=_;generalize zvl=c0 at *;exact fin_)
def zkl (has:Bool) (val:ByteArray) (e_:Int) (b0_node:Node) (b0_job:Job) (r1:List Out):Option (Node):=
 ziv b0_node b0_job.id has val e_
theorem zqZ {has val e_ b0_node b0_job r1 r} (h:zkl has val e_ b0_node b0_job r1=some r):zdh has val e_ b0_node b0_job r1=some r:=by
 unfold zkl at h
 refine zao fun γ=>?_
 have h1:=ask_some h
 rcases r with res
 refine ⟨gam [0,γ 1],zab rfl ?_⟩;rotate_left
 all_goals (dsimp only [R1,zbW] at *;show zas IF_ zyx _ _=_;exact fin_)
def zeJ (owner:Peer) (mine:Bool) (b0_node:Node) (b0_job:Job) (r2:List Out):Option ((Node × (List Finger))):=
 bif mine then
  (zin b0_node b0_job r2).bind fun ⟨r0,zq4,zns,zq2,zpg,zrN,zrM,zq6,zq5,zrL,znu,ztT,zq3,znt⟩=>
  zca false ⟨#[]⟩ 0 (⟨(⟨zq4,zns⟩:Peer),zq2,zpg,zrN,zrM,r0,zq6,zq5,zrL,znu,ztT,zq3,znt⟩:Node) b0_job r2
 else
  (zrY b0_node.fingers b0_job.bit owner).bind fun res=>
  (zdh false ⟨#[]⟩ 0 (⟨b0_node.me,b0_node.clock,b0_node.joined,b0_node.pred,b0_node.list,res,b0_node.store,b0_node.pends,b0_node.jobs,b0_node.results,b0_node.rid,b0_node.jobID,b0_node.nextBit⟩:Node) b0_job r2).bind fun b0_node1=>
  some (b0_node1,b0_node.fingers)
theorem zlF {owner mine b0_node b0_job r2 r} (h:zeJ owner mine b0_node b0_job r2=some r):zji owner mine b0_node b0_job r2=some r:=by
 unfold zeJ at h
 refine zao fun γ=>?_
 rcases zaa h with ⟨h1,h⟩ | ⟨h1,h⟩
 obtain ⟨r2,γ1,h2,h⟩:=zah h (gam [γ 1,0,0,γ 2])
 rcases r2 with ⟨r0,zq4,zns,zq2,zpg,zrN,zrM,zq6,zq5,zrL,znu,ztT,zq3,znt⟩
 obtain ⟨γ2,h3⟩:=zak h (gam [0,(γ1 0),(γ1 3)])
 rcases r with ⟨b0_node1,r1⟩
 refine ⟨gam [0,(γ2 1),(γ2 2)],zab rfl ?_⟩;rotate_left
 obtain ⟨res,h2,h⟩:=zac h
 obtain ⟨b0_node1,γ2,h3,h⟩:=zah h (gam [0,γ 2])
 cases h;refine ⟨gam [0,γ 1,(γ2 1)],zab rfl ?_⟩;rotate_left
 all_goals (dsimp only [zcD,R1,zdf,zbW,zbN] at *;show zas IF_ zH2 _ _=_;exact fin_)
abbrev zj5:=(Node × (List Entry) × (List Entry) × (List Finger) × (List Pair) × (List Pend) × (List Job) × (List Result) × (List Peer) × (List Out))
def zex (γ:Nat → Nat):zj5 → X × St
 | (a0,a1,a2,a3,a4,a5,a6,a7,a8,a9)=>(.brk 0,⟨bd 3 (.bptr 0 0 :: bd 2 (.bptr 1 0 :: bd 5 (.sl 11 ((γ 11)) :: bd 50 []))),[.box 34 (zam a0),.box 34 ([vU 0,vH 0,vI 0,vF false,.lit 0 true [],.lit 0 true [],.lit 0 true [],.lit 0 true [],.lit 0 true [],.lit 0 true [],.lit 0 true [],vW 0,vI 0,vI 0]),.row 56 (γ 2) false (List.map eOut []),.row 81 (γ 3) true (List.map zat a1),.row 81 (γ 4) true (List.map zat a2),.row 84 (γ 5) true (List.map zae a3),.row 78 (γ 6) true (List.map zan a4),.row 88 (γ 7) true (List.map zaX a5),.row 67 (γ 8) true (List.map eJob a6),.row 60 (γ 9) true (List.map zal a7),.row 25 (γ 10) true (List.map zai a8),.row 56 (γ 11) false (List.map eOut a9)]⟩)
instance :InjS zex:=⟨fun γ γ' x y h=>by
 rcases x with ⟨a0,a1,a2,a3,a4,a5,a6,a7,a8,a9⟩ <;> rcases y with ⟨a0',a1',a2',a3',a4',a5',a6',a7',a8',a9'⟩ <;> simp only [zex] at h <;> exact inj_⟩
def zea (key:ByteArray) (val:ByteArray) (t40:List Peer) (t41:Int) (t42:Int) (b0:Node) (r3:List Entry) (r4:List Entry) (r5:List Finger) (r6:List Pair) (r7:List Pend) (r8:List Job) (r9:List Result) (r10:List Peer) (r11:List Out):Option (zj5):=asks (fun γ=>(lim F pr).loop [41,40,1,2,42,3,12,6] 12 zth ⟨bd 1 (vT key :: vT val :: .bptr 0 0 :: bd 2 (.bptr 1 0 :: bd 5 (.sl 11 ((γ 11)) :: bd 27 (.lit 25 false (List.map zai t40) :: vI t41 :: vI t42 :: bd 20 [])))),[.box 34 (zam b0),.box 34 ([vU 0,vH 0,vI 0,vF false,.lit 0 true [],.lit 0 true [],.lit 0 true [],.lit 0 true [],.lit 0 true [],.lit 0 true [],.lit 0 true [],vW 0,vI 0,vI 0]),.row 56 (γ 2) false (List.map eOut []),.row 81 (γ 3) true (List.map zat r3),.row 81 (γ 4) true (List.map zat r4),.row 84 (γ 5) true (List.map zae r5),.row 78 (γ 6) true (List.map zan r6),.row 88 (γ 7) true (List.map zaX r7),.row 67 (γ 8) true (List.map eJob r8),.row 60 (γ 9) true (List.map zal r9),.row 25 (γ 10) true (List.map zai r10),.row 56 (γ 11) false (List.map eOut r11)]⟩) zex
def zg1 (key:ByteArray) (val:ByteArray) (t40:List Peer) (t41:Int) (t42:Int) (b0:Node) (r3:List Entry) (r4:List Entry) (r5:List Finger) (r6:List Pair) (r7:List Pend) (r8:List Job) (r9:List Result) (r10:List Peer) (r11:List Out):Option (zj5):=
 bif Ops.std.ilt t42 t41 then
  (xget zai t40 t42).bind fun x=>
  (zqS b0 x [(⟨key,val⟩:Pair)] true).bind fun ⟨r0,r1⟩=>
  bif zaV eOut 136 r11 r1 then
   zea key val t40 t41 (Ops.std.iadd .i64 t42 1) r0 r3 r4 r5 r6 r7 r8 r9 r10 (r11 ++ r1)
  else
   none
 else
  some (b0,r3,r4,r5,r6,r7,r8,r9,r10,r11)
theorem znY {key val t40 t41 t42 b0 r3 r4 r5 r6 r7 r8 r9 r10 r11 r} (h:zg1 key val t40 t41 t42 b0 r3 r4 r5 r6 r7 r8 r9 r10 r11=some r):zea key val t40 t41 t42 b0 r3 r4 r5 r6 r7 r8 r9 r10 r11=some r:=by
 unfold zg1 at h
 refine zao fun γ=>?_
 rcases zaa h with ⟨h1,h⟩ | ⟨h1,h⟩
 obtain ⟨x,h2,h⟩:=zac h
 obtain ⟨r3,h3,h⟩:=zac h
 rcases r3 with ⟨r0,r1⟩
 obtain ⟨h4,h⟩:=zaH h
 replace h:=zak h (gam [0,0,(γ 2),(γ 3),(γ 4),(γ 5),(γ 6),(γ 7),(γ 8),(γ 9),(γ 10),((γ 11) + 1)]);obtain ⟨γ',h0⟩:=h;refine ⟨γ',zad ?_⟩;rotate_left
 cases h;refine ⟨gam [0,0,(γ 2),(γ 3),(γ 4),(γ 5),(γ 6),(γ 7),(γ 8),(γ 9),(γ 10),(γ 11)],zad ?_⟩;rotate_left
 all_goals (dsimp only [R2,zex] at *;show zaT IF_ _ _ zth zDY _=_;generalize zth=c0 at *;exact fin_)
def zm8 (n:Node) (key:ByteArray) (val:ByteArray):Option ((Node × (List Out) × Int)):=
 (zcj n).bind fun ⟨zaF,zav,zaD,zay,zaG,zaC,zaq,zaz,zax,zaB,zar,zaK,zaE,zaw⟩=>
 (zsT zaz key val).bind fun ⟨r0,r1⟩=>
 bif Ops.std.ieq r1 0 then
  (zjK zaC).bind fun res=>
  bif Ops.std.ilt 2 (xlen zai res) then
   (xsub zai res 0 2).bind fun ys=>
   (zea key val ys (xlen zai ys) 0 (⟨(⟨zaF,zav⟩:Peer),zaD,zay,zaG,zaC,zaq,r0,zax,zaB,zar,zaK,zaE,zaw⟩:Node) zaG zaC zaq zaz zax zaB zar res []).bind fun ⟨b0,r3,r4,r5,r6,r7,r8,r9,r10,r11⟩=>
   some (b0,r11,0)
  else
   (xsub zai res 0 (xlen zai res)).bind fun ys=>
   (zea key val ys (xlen zai ys) 0 (⟨(⟨zaF,zav⟩:Peer),zaD,zay,zaG,zaC,zaq,r0,zax,zaB,zar,zaK,zaE,zaw⟩:Node) zaG zaC zaq zaz zax zaB zar res []).bind fun ⟨b0,r3,r4,r5,r6,r7,r8,r9,r10,r11⟩=>
   some (b0,r11,0)
 else
  some ((⟨(⟨zaF,zav⟩:Peer),zaD,zay,zaG,zaC,zaq,zaz,zax,zaB,zar,zaK,zaE,zaw⟩:Node),[],r1)
theorem zzT {n key val r} (h:zm8 n key val=some r):zqT n key val=some r:=by
 unfold zm8 at h
 refine zau ?_
 obtain ⟨r1,h1,h⟩:=zac h
 rcases r1 with ⟨zaF,zav,zaD,zay,zaG,zaC,zaq,zaz,zax,zaB,zar,zaK,zaE,zaw⟩
 obtain ⟨r2,h2,h⟩:=zac h
 rcases r2 with ⟨r0,r1⟩
 rcases zaa h with ⟨h3,h⟩ | ⟨h3,h⟩
 obtain ⟨res,h4,h⟩:=zac h
 rcases zaa h with ⟨h5,h⟩ | ⟨h5,h⟩
 obtain ⟨ys,h6,h⟩:=zac h
 obtain ⟨r7,γ4,h7,h⟩:=zah h (gam [0,0,0,0,0,0,0,0,0,0,0,0])
 rcases r7 with ⟨b0,r3,r4,r5,r6,r7,r8,r9,r10,r11⟩
 cases h;refine zab rfl ?_;rotate_left
 obtain ⟨ys,h6,h⟩:=zac h
 obtain ⟨r7,γ4,h7,h⟩:=zah h (gam [0,0,0,0,0,0,0,0,0,0,0,0])
 rcases r7 with ⟨b0,r3,r4,r5,r6,r7,r8,r9,r10,r11⟩
 cases h;refine zab rfl ?_;rotate_left
 cases h;refine zab rfl ?_;rotate_left
 all_goals (dsimp only [K1,R2,R3,zbu,zex] at *;show zas IF_ (g20F zth) _ _=_;generalize zth=c0 at *;exact fin_)
def zf4 (has:Bool) (val:ByteArray) (e_:Int) (b0_node:Node) (b0_job:Job) (r2:List Out):Option ((Node × (List Finger))):=
 (ziv b0_node b0_job.id has val e_).bind fun res=>
 some (res,b0_node.fingers)
theorem zq0 {has val e_ b0_node b0_job r2 r} (h:zf4 has val e_ b0_node b0_job r2=some r):zhV has val e_ b0_node b0_job r2=some r:=by
 unfold zf4 at h
 refine zao fun γ=>?_
 obtain ⟨res,h1,h⟩:=zac h
 cases h;refine ⟨gam [0,γ 1,γ 2],zab rfl ?_⟩;rotate_left
 all_goals (dsimp only [R1,zcx] at *;show zas IF_ zyx _ _=_;exact fin_)
def zjl (b0_node:Node) (b0_job:Job) (r2:List Out):Option ((Node × (List Finger) × (List Out))):=
 (zqT b0_node b0_job.key b0_job.val).bind fun ⟨r0,r1,r21⟩=>
 bif Ops.std.ieq r21 0 then
  (zfI r0 r1 b0_node b0_job r2).bind fun ⟨r11,r22⟩=>
  (zdh true b0_job.val 0 r0 b0_job r22).bind fun b0_node1=>
  some (b0_node1,r11,r22)
 else
  (zhV false ⟨#[]⟩ r21 b0_node b0_job r2).bind fun ⟨b0_node1,r11⟩=>
  some (b0_node1,r11,r2)
theorem zuV {b0_node b0_job r2 r} (h:zjl b0_node b0_job r2=some r):zk1 b0_node b0_job r2=some r:=by
 unfold zjl at h
 refine zao fun γ=>?_
 obtain ⟨r1,h1,h⟩:=zac h
 rcases r1 with ⟨r0,r1,r21⟩
 rcases zaa h with ⟨h2,h⟩ | ⟨h2,h⟩
 obtain ⟨r3,γ2,h3,h⟩:=zah h (gam [0,γ 1,γ 2])
 rcases r3 with ⟨r11,r22⟩
 obtain ⟨b0_node1,γ3,h4,h⟩:=zah h (gam [0,(γ2 2)])
 cases h;refine ⟨gam [0,(γ2 1),(γ3 1)],zab rfl ?_⟩;rotate_left
 obtain ⟨r3,γ2,h3,h⟩:=zah h (gam [0,γ 1,γ 2])
 rcases r3 with ⟨b0_node1,r11⟩
 cases h;refine ⟨gam [0,(γ2 1),(γ2 2)],zab rfl ?_⟩;rotate_left
 all_goals (dsimp only [R3,zdY,zbW,zcx,zcb] at *;show zas IF_ zH3 _ _=_;exact fin_)
def zlj (l:List Pair) (key:ByteArray):Option ((ByteArray × Bool)):=
 (zlk l key).bind fun res=>
 bif Ops.std.ilt res 0 then some (⟨#[]⟩,false) else
 (xget zan l res).bind fun x=>
 some (x.val,true)
theorem zA8 {l key r} (h:zlj l key=some r):zsS l key=some r:=by
 unfold zlj at h
 refine zau ?_
 obtain ⟨res,h1,h⟩:=zac h
 rcases zaa h with ⟨h2,h⟩ | ⟨h2,h⟩
 cases h;refine zab rfl ?_;rotate_left
 obtain ⟨x,h3,h⟩:=zac h
 cases h;refine zab rfl ?_;rotate_left
 all_goals (dsimp only [R1,R2] at *;show zas IF_ zHC _ _=_;exact fin_)
abbrev zhT:=(Node × Job × (List Finger) × (List Out))
def zdd (owner:Peer) (γ:Nat → Nat):zhT → X × St
 | (a0,a1,a2,a3)=>(.nor,⟨bd 87 [],[.box 135 (capp (zam a0) (capp (cJob a1) ([.sl 2 ((γ 2))]))),.row 84 (γ 1) true (List.map zae a2),.row 56 (γ 2) false (List.map eOut a3),.box 25 [vU owner.id,vH owner.addr]]⟩)
instance {owner}:InjS (zdd owner):=⟨fun γ γ' x y h=>by
 rcases x with ⟨a0,a1,a2,a3⟩ <;> rcases y with ⟨a0',a1',a2',a3'⟩ <;> simp only [zdd] at h <;> exact inj_⟩
def zf2 (owner:Peer) (b0_node:Node) (b0_job:Job) (r2:List Out) (t19:Bool):Option (zhT):=asks (fun γ=>(lim F pr).seg [] zu6 ⟨.bptr 0 0 :: bd 2 (.bptr 3 0 :: vF (Ops.std.ieq owner.addr b0_node.me.addr) :: bd 14 (vF t19 :: bd 67 [])),[.box 135 (capp (zaR b0_node (.sl 1 ((γ 1)))) (capp (cJob b0_job) ([.sl 2 ((γ 2))]))),.row 84 (γ 1) false (List.map zae b0_node.fingers),.row 56 (γ 2) false (List.map eOut r2),.box 25 [vU owner.id,vH owner.addr]]⟩) (zdd owner)
abbrev zhS:=(Node × Job × (List Finger) × (List Out))
def zdb (owner:Peer) (γ:Nat → Nat):zhS → X × St
 | (a0,a1,a2,a3)=>(.nor,⟨bd 87 [],[.box 135 (capp (zam a0) (capp (cJob a1) ([.sl 2 ((γ 2))]))),.row 84 (γ 1) true (List.map zae a2),.row 56 (γ 2) false (List.map eOut a3),.box 25 [vU owner.id,vH owner.addr]]⟩)
instance {owner}:InjS (zdb owner):=⟨fun γ γ' x y h=>by
 rcases x with ⟨a0,a1,a2,a3⟩ <;> rcases y with ⟨a0',a1',a2',a3'⟩ <;> simp only [zdb] at h <;> exact inj_⟩
def zf1 (owner:Peer) (b0_node:Node) (b0_job:Job) (r2:List Out) (mine:Bool) (t47:Bool):Option (zhS):=asks (fun γ=>(lim F pr).seg [] zu5 ⟨.bptr 0 0 :: bd 2 (.bptr 3 0 :: vF mine :: bd 42 (vF t47 :: bd 39 [])),[.box 135 (capp (zaR b0_node (.sl 1 ((γ 1)))) (capp (cJob b0_job) ([.sl 2 ((γ 2))]))),.row 84 (γ 1) false (List.map zae b0_node.fingers),.row 56 (γ 2) false (List.map eOut r2),.box 25 [vU owner.id,vH owner.addr]]⟩) (zdb owner)
abbrev zhR:=(Node × Job × (List Finger) × (List Out))
def zc9 (owner:Peer) (γ:Nat → Nat):zhR → X × St
 | (a0,a1,a2,a3)=>(.nor,⟨bd 87 [],[.box 135 (capp (zam a0) (capp (cJob a1) ([.sl 2 ((γ 2))]))),.row 84 (γ 1) true (List.map zae a2),.row 56 (γ 2) false (List.map eOut a3),.box 25 [vU owner.id,vH owner.addr]]⟩)
instance {owner}:InjS (zc9 owner):=⟨fun γ γ' x y h=>by
 rcases x with ⟨a0,a1,a2,a3⟩ <;> rcases y with ⟨a0',a1',a2',a3'⟩ <;> simp only [zc9] at h <;> exact inj_⟩
def zf0 (owner:Peer) (b0_node:Node) (b0_job:Job) (r2:List Out) (t59:Bool):Option (zhR):=asks (fun γ=>(lim F pr).seg [] zu4 ⟨.bptr 0 0 :: bd 2 (.bptr 3 0 :: bd 55 (vF t59 :: bd 27 [])),[.box 135 (capp (zaR b0_node (.sl 1 ((γ 1)))) (capp (cJob b0_job) ([.sl 2 ((γ 2))]))),.row 84 (γ 1) false (List.map zae b0_node.fingers),.row 56 (γ 2) false (List.map eOut r2),.box 25 [vU owner.id,vH owner.addr]]⟩) (zc9 owner)
def zbM (owner:Peer) (b0_node:Node) (b0_job:Job) (r2:List Out) (t19:Bool):Option (zhT):=
 bif t19 then zi5 b0_job.via b0_node b0_job r2 else
 bif Ops.std.ieq b0_job.kind 4 then
  (zji owner (Ops.std.ieq owner.addr b0_node.me.addr) b0_node b0_job r2).bind fun ⟨b0_node1,r1⟩=>
  some (b0_node1,b0_job,r1,r2)
 else
  bif Ops.std.ieq b0_job.kind 2 then
   zf1 owner b0_node b0_job r2 (Ops.std.ieq owner.addr b0_node.me.addr) (Ops.std.ieq owner.addr b0_node.me.addr)
  else
   zf1 owner b0_node b0_job r2 (Ops.std.ieq owner.addr b0_node.me.addr) false
theorem zdc {owner b0_node b0_job r2 t19 r} (h:zbM owner b0_node b0_job r2 t19=some r):zf2 owner b0_node b0_job r2 t19=some r:=by
 unfold zbM at h
 refine zao fun γ=>?_
 rcases zaa h with ⟨h1,h⟩ | ⟨h1,h⟩
 obtain ⟨γ1,h2⟩:=zak h (gam [0,(γ 1),(γ 2)])
 rcases r with ⟨b0_node1,zbm,r1,r21⟩
 refine ⟨gam [0,(γ1 1),(γ1 2)],zaj ?_⟩;rotate_left
 rcases zaa h with ⟨h2,h⟩ | ⟨h2,h⟩
 obtain ⟨r3,γ1,h3,h⟩:=zah h (gam [0,(γ 1),(γ 2)])
 rcases r3 with ⟨b0_node1,r1⟩
 cases h;refine ⟨gam [0,(γ1 1),(γ1 2)],zaj ?_⟩;rotate_left
 rcases zaa h with ⟨h3,h⟩ | ⟨h3,h⟩
 obtain ⟨γ1,h4⟩:=zak h (gam [0,(γ 1),(γ 2)])
 rcases r with ⟨zmB,zoU,r1,r2'⟩
 refine ⟨gam [0,(γ1 1),(γ1 2)],zaj ?_⟩;rotate_left
 obtain ⟨γ1,h4⟩:=zak h (gam [0,(γ 1),(γ 2)])
 rcases r with ⟨zmB,zoU,r1,r2'⟩
 refine ⟨gam [0,(γ1 1),(γ1 2)],zaj ?_⟩;rotate_left
 all_goals (dsimp only [zdp,zdb,zdd,zdf] at *;show Ifc.apart IF_ _ (zBm zu5) _=_;generalize zu5=c0 at *;exact fin_)
def zbL (owner:Peer) (b0_node:Node) (b0_job:Job) (r2:List Out) (mine:Bool) (t47:Bool):Option (zhS):=
 bif t47 then
  (zk1 b0_node b0_job r2).bind fun ⟨b0_node1,r1,r21⟩=>
  some (b0_node1,b0_job,r1,r21)
 else
  bif Ops.std.ieq b0_job.kind 3 then zf0 owner b0_node b0_job r2 mine else
  zf0 owner b0_node b0_job r2 false
theorem zda {owner b0_node b0_job r2 mine t47 r} (h:zbL owner b0_node b0_job r2 mine t47=some r):zf1 owner b0_node b0_job r2 mine t47=some r:=by
 unfold zbL at h
 refine zao fun γ=>?_
 rcases zaa h with ⟨h1,h⟩ | ⟨h1,h⟩
 obtain ⟨r2,γ1,h2,h⟩:=zah h (gam [0,(γ 1),(γ 2)])
 rcases r2 with ⟨b0_node1,r1,r21⟩
 cases h;refine ⟨gam [0,(γ1 1),(γ1 2)],zaj ?_⟩;rotate_left
 rcases zaa h with ⟨h2,h⟩ | ⟨h2,h⟩
 obtain ⟨γ1,h3⟩:=zak h (gam [0,(γ 1),(γ 2)])
 rcases r with ⟨zmB,zoU,r1,r2'⟩
 refine ⟨gam [0,(γ1 1),(γ1 2)],zaj ?_⟩;rotate_left
 obtain ⟨γ1,h3⟩:=zak h (gam [0,(γ 1),(γ 2)])
 rcases r with ⟨zmB,zoU,r1,r2'⟩
 refine ⟨gam [0,(γ1 1),(γ1 2)],zaj ?_⟩;rotate_left
 all_goals (dsimp only [zc9,zdb,zdY] at *;show Ifc.apart IF_ _ (zBl zu4) _=_;generalize zu4=c0 at *;exact fin_)
def zeI (owner:Peer) (b0_node:Node) (b0_job:Job) (r2:List Out) (t59:Bool):Option (zhR):=
 bif t59 then
  (zsS b0_node.store b0_job.key).bind fun ⟨r0,r1⟩=>
  (zca r1 r0 0 b0_node b0_job r2).bind fun ⟨b0_node1,r11⟩=>
  some (b0_node1,b0_job,r11,r2)
 else
  zi5 owner b0_node b0_job r2
theorem zlE {owner b0_node b0_job r2 t59 r} (h:zeI owner b0_node b0_job r2 t59=some r):zf0 owner b0_node b0_job r2 t59=some r:=by
 unfold zeI at h
 refine zao fun γ=>?_
 rcases zaa h with ⟨h1,h⟩ | ⟨h1,h⟩
 obtain ⟨r2,h2,h⟩:=zac h
 rcases r2 with ⟨r0,r1⟩
 obtain ⟨r3,γ2,h3,h⟩:=zah h (gam [0,(γ 1),(γ 2)])
 rcases r3 with ⟨b0_node1,r11⟩
 cases h;refine ⟨gam [0,(γ2 1),(γ2 2)],zaj ?_⟩;rotate_left
 obtain ⟨γ1,h2⟩:=zak h (gam [0,(γ 1),(γ 2)])
 rcases r with ⟨b0_node1,zbm,r1,r21⟩
 refine ⟨gam [0,(γ1 1),(γ1 2)],zaj ?_⟩;rotate_left
 all_goals (dsimp only [R2,zdp,zc9,zbN] at *;show Ifc.apart IF_ _ zBk _=_;exact fin_)
def zeG (owner:Peer) (b0_node:Node) (b0_job:Job) (r2:List Out):Option (zkg):=
 bif Ops.std.ieq b0_job.kind 1 then
  zf2 owner b0_node b0_job r2 (Ops.std.ieq owner.addr b0_node.me.addr)
 else
  zf2 owner b0_node b0_job r2 false
theorem zkh {owner b0_node b0_job r2 r} (h:zeG owner b0_node b0_job r2=some r):zi6 owner b0_node b0_job r2=some r:=by
 unfold zeG at h
 refine zao fun γ=>?_
 rcases zaa h with ⟨h1,h⟩ | ⟨h1,h⟩
 obtain ⟨γ1,h2⟩:=zak h (gam [0,γ 1,γ 2])
 rcases r with ⟨zmB,zoU,r1,r2'⟩
 refine ⟨gam [0,(γ1 1),(γ1 2)],zab rfl ?_⟩;rotate_left
 obtain ⟨γ1,h2⟩:=zak h (gam [0,γ 1,γ 2])
 rcases r with ⟨zmB,zoU,r1,r2'⟩
 refine ⟨gam [0,(γ1 1),(γ1 2)],zab rfl ?_⟩;rotate_left
 all_goals (dsimp only [zeH,zdd] at *;show zas IF_ (zHv zu6) _ _=_;generalize zu6=c0 at *;exact fin_)
end Go.Ab.Tryz
