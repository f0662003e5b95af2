/- Our texts for this statement, merged: what its theorem leads to. -/
import Derived.Test.YtjmmobicnfojeaaGreatDoorQWb9
set_option linter.unusedVariables false
set_option linter.unusedSimpArgs false
noncomputable section
namespace Go.Ab.Tryz
open Go Go.Ab Go.Proofs
set_option maxRecDepth 10000
set_option maxHeartbeats 4000000
def zc8 (n:Node) (γ:Nat → Nat):Bool → X × St
 | a0=>(.ret,⟨bd 8 (vF a0 :: bd 140 []),[.box 34 ([vU n.me.id,vH n.me.addr,vI n.clock,vF true,.lit 81 false (List.map zat n.pred),.lit 0 true [],.lit 84 false (List.map zae n.fingers),.lit 0 true [],.lit 88 false (List.map zaX n.pends),.lit 0 true [],.lit 0 true [],vW n.rid,vI n.jobID,vI n.nextBit])]⟩)
instance {n}:InjS (zc8 n):=⟨fun γ γ' x y h=>by
 rcases x with a0 <;> rcases y with a0' <;> simp only [zc8] at h <;> exact inj_⟩
def zne (n:Node) (key:ByteArray) (val:ByteArray) (other:ByteArray):Option (Bool):=asks (fun γ=>(lim F pr).seg [8] b6_1 ⟨bd 1 (vT key :: vT val :: vT other :: .bptr 0 0 :: bd 144 []),[.box 34 (zam n)]⟩) (zc8 n)
def zc7 (n:Node) (γ:Nat → Nat):(Bool × Node × Node × Node) → X × St
 | (a0,a1,a2,a3)=>(.ret,⟨bd 8 (vF a0 :: bd 140 []),[.box 34 ([vU n.me.id,vH n.me.addr,vI n.clock,vF true,.lit 81 false (List.map zat n.pred),.lit 0 true [],.lit 84 false (List.map zae n.fingers),.lit 0 true [],.lit 88 false (List.map zaX n.pends),.lit 0 true [],.lit 0 true [],vW n.rid,vI n.jobID,vI n.nextBit]),.box 34 (zam a1),.box 34 (zam a2),.box 34 (zam a3)]⟩)
instance {n}:InjS (zc7 n):=⟨fun γ γ' x y h=>by
 rcases x with ⟨a0,a1,a2,a3⟩ <;> rcases y with ⟨a0',a1',a2',a3'⟩ <;> simp only [zc7] at h <;> exact inj_⟩
def zjf (n:Node) (key:ByteArray) (val:ByteArray) (other:ByteArray) (b1:Node) (b2:Node) (b3:Node):Option ((Bool × Node × Node × Node)):=asks (fun γ=>(lim F pr).seg [8] b6_0 ⟨bd 1 (vT key :: vT val :: vT other :: bd 11 (.bptr 3 0 :: bd 133 [])),[.box 34 ([vU n.me.id,vH n.me.addr,vI n.clock,vF true,.lit 81 false (List.map zat n.pred),.lit 0 true [],.lit 84 false (List.map zae n.fingers),.lit 0 true [],.lit 88 false (List.map zaX n.pends),.lit 0 true [],.lit 0 true [],vW n.rid,vI n.jobID,vI n.nextBit]),.box 34 (zam b1),.box 34 (zam b2),.box 34 (zam b3)]⟩) (zc7 n)
def zhO (n:Node) (key:ByteArray) (val:ByteArray) (other:ByteArray):Option (Bool):=
 (zij (⟨n.me,n.clock,true,n.pred,[],n.fingers,[],n.pends,[],[],n.rid,n.jobID,n.nextBit⟩:Node) 2 key val).bind fun ⟨r0,r1,r2⟩=>
 (zij r0 3 key ⟨#[]⟩).bind fun ⟨r01,r11,r21⟩=>
 (zij r01 3 other ⟨#[]⟩).bind fun ⟨r02,r12,r22⟩=>
 bif Ops.std.ieq r2 0 then
  bif Ops.std.ieq r21 0 then
   bif Ops.std.ieq r22 0 then
    bif Ops.std.ilt 0 (Ops.std.iadd .i64 (Ops.std.iadd .i64 (xlen eOut r1) (xlen eOut r11)) (xlen eOut r12)) then some false else
    bif Ops.std.ilt 0 (xlen eJob r02.jobs) then some false else
    bif Ops.std.ieq (xlen zal r02.results) 3 then
     (zjf n key val other r0 r01 r02).bind fun ⟨t8,b1,b2,b3⟩=>
     some t8
    else
     some false
   else
    some false
  else
   some false
 else
  some false
theorem zs1 {n key val other r} (h:zhO n key val other=some r):zne n key val other=some r:=by
 unfold zhO at h
 refine zao fun γ=>?_
 obtain ⟨r1,h1,h⟩:=zac h
 rcases r1 with ⟨r0,r1,r2⟩
 obtain ⟨r2,h2,h⟩:=zac h
 rcases r2 with ⟨r01,r11,r21⟩
 obtain ⟨r3,h3,h⟩:=zac h
 rcases r3 with ⟨r02,r12,r22⟩
 rcases zaa h with ⟨h4,h⟩ | ⟨h4,h⟩
 rcases zaa h with ⟨h5,h⟩ | ⟨h5,h⟩
 rcases zaa h with ⟨h6,h⟩ | ⟨h6,h⟩
 rcases zaa h with ⟨h7,h⟩ | ⟨h7,h⟩
 cases h;refine ⟨gam [],zaj ?_⟩;rotate_left
 rcases zaa h with ⟨h8,h⟩ | ⟨h8,h⟩
 cases h;refine ⟨gam [],zaj ?_⟩;rotate_left
 rcases zaa h with ⟨h9,h⟩ | ⟨h9,h⟩
 obtain ⟨r10,γ4,h10,h⟩:=zah h (gam [])
 rcases r10 with ⟨t8,b1,b2,b3⟩
 cases h;refine ⟨gam [],zaj ?_⟩;rotate_left
 cases h;refine ⟨gam [],zaj ?_⟩;rotate_left
 cases h;refine ⟨gam [],zaj ?_⟩;rotate_left
 cases h;refine ⟨gam [],zaj ?_⟩;rotate_left
 cases h;refine ⟨gam [],zaj ?_⟩;rotate_left
 all_goals (dsimp only [R3,zc7,zc8] at *;show Ifc.apart IF_ _ (zHm b6_0) _=_;generalize b6_0=c0 at *;exact fin_)
def zhN (n:Node) (key:ByteArray) (val:ByteArray) (other:ByteArray) (b1:Node) (b2:Node) (b3:Node):Option ((Bool × Node × Node × Node)):=
 (xget zal b3.results 0).bind fun x=>
 (xget zal b3.results 1).bind fun x1=>
 (xget zal b3.results 2).bind fun x2=>
 bif Ops.std.ieq x.err 0 then
  bif x.has then
   bif Ops.std.ieq x1.err 0 then
    bif x1.has then
     bif Ops.std.seq x1.val val then
      bif Ops.std.ieq x2.err 0 then
       bif Ops.std.beq x2.has (Ops.std.seq other key) then
        (zbz).bind fun res=>
        some (res,b1,b2,b3)
       else
        some (false,b1,b2,b3)
      else
       some (false,b1,b2,b3)
     else
      some (false,b1,b2,b3)
    else
     some (false,b1,b2,b3)
   else
    some (false,b1,b2,b3)
  else
   some (false,b1,b2,b3)
 else
  some (false,b1,b2,b3)
theorem zs0 {n key val other b1 b2 b3 r} (h:zhN n key val other b1 b2 b3=some r):zjf n key val other b1 b2 b3=some r:=by
 unfold zhN at h
 refine zao fun γ=>?_
 obtain ⟨x,h1,h⟩:=zac h
 obtain ⟨x1,h2,h⟩:=zac h
 obtain ⟨x2,h3,h⟩:=zac h
 rcases zaa h with ⟨h4,h⟩ | ⟨h4,h⟩
 rcases zaa h with ⟨h5,h⟩ | ⟨h5,h⟩
 rcases zaa h with ⟨h6,h⟩ | ⟨h6,h⟩
 rcases zaa h with ⟨h7,h⟩ | ⟨h7,h⟩
 rcases zaa h with ⟨h8,h⟩ | ⟨h8,h⟩
 rcases zaa h with ⟨h9,h⟩ | ⟨h9,h⟩
 rcases zaa h with ⟨h10,h⟩ | ⟨h10,h⟩
 obtain ⟨res,h11,h⟩:=zac h
 cases h;refine ⟨gam [],zaj ?_⟩;rotate_left
 cases h;refine ⟨gam [],zaj ?_⟩;rotate_left
 cases h;refine ⟨gam [],zaj ?_⟩;rotate_left
 cases h;refine ⟨gam [],zaj ?_⟩;rotate_left
 cases h;refine ⟨gam [],zaj ?_⟩;rotate_left
 cases h;refine ⟨gam [],zaj ?_⟩;rotate_left
 cases h;refine ⟨gam [],zaj ?_⟩;rotate_left
 cases h;refine ⟨gam [],zaj ?_⟩;rotate_left
 all_goals (dsimp only [R1,zc7] at *;show Ifc.apart IF_ _ zHl _=_;(try dsimp only [zai,zat,zae,zan,zaX,eJob,zal,zaJ,eMsg,eOut,zbR,cJob,zam,cMsg,zaR,capp] at *);(try simp only [List.map_cons,List.map_nil] at *);(try generalize x.has=q0 at *);(try generalize x1.has=q1 at *);exact fin_)
def zj8 (n:Node) (key:ByteArray) (val:ByteArray) (other:ByteArray):Option (Bool):=
 (zlC n).bind fun res=>
 bif res then zbz else
 (zkI key).bind fun res1=>
 bif res1 then
  (zkI other).bind fun res2=>
  bif res2 then
   bif Ops.std.ilt 512 (Ops.std.slen val) then zbz else
   zne n key val other
  else
   zbz
 else
  zbz
theorem zv3 {n key val other r} (h:zj8 n key val other=some r):zrx n key val other=some r:=by
 unfold zj8 at h
 refine zau ?_
 obtain ⟨res,h1,h⟩:=zac h
 rcases zaa h with ⟨h2,h⟩ | ⟨h2,h⟩
 have h3:=ask_some h
 rcases r with res1
 refine zab rfl ?_;rotate_left
 obtain ⟨res1,h3,h⟩:=zac h
 rcases zaa h with ⟨h4,h⟩ | ⟨h4,h⟩
 obtain ⟨res2,h5,h⟩:=zac h
 rcases zaa h with ⟨h6,h⟩ | ⟨h6,h⟩
 rcases zaa h with ⟨h7,h⟩ | ⟨h7,h⟩
 have h8:=ask_some h
 rcases r with res3
 refine zab rfl ?_;rotate_left
 obtain ⟨γ4,h8⟩:=zak h (gam [])
 rcases r with t8
 refine zab rfl ?_;rotate_left
 have h7:=ask_some h
 rcases r with res3
 refine zab rfl ?_;rotate_left
 have h5:=ask_some h
 rcases r with res2
 refine zab rfl ?_;rotate_left
 all_goals (dsimp only [R1,zc8] at *;show zas IF_ (g6F b6_1) _ _=_;generalize b6_1=c0 at *;exact fin_)
abbrev zgV:=(Bool × (List Entry) × (List Entry) × (List Finger) × (List Pair) × (List Pend) × (List Job) × (List Result))
def zcL (n:Node) (via:Peer) (γ:Nat → Nat):zgV → X × St
 | (a0,a1,a2,a3,a4,a5,a6,a7)=>(.ret,⟨bd 12 (vF a0 :: bd 133 []),[.box 34 (zam n),.box 25 [vU via.id,vH via.addr],.row 81 (γ 2) true (List.map zat a1),.row 81 (γ 3) true (List.map zat a2),.row 84 (γ 4) true (List.map zae a3),.row 78 (γ 5) true (List.map zan a4),.row 88 (γ 6) true (List.map zaX a5),.row 67 (γ 7) true (List.map eJob a6),.row 60 (γ 8) true (List.map zal a7)]⟩)
instance {n via}:InjS (zcL n via):=⟨fun γ γ' x y h=>by
 rcases x with ⟨a0,a1,a2,a3,a4,a5,a6,a7⟩ <;> rcases y with ⟨a0',a1',a2',a3',a4',a5',a6',a7'⟩ <;> simp only [zcL] at h <;> exact inj_⟩
def zip (n:Node) (kind:Int) (key:ByteArray) (val:ByteArray) (via:Peer) (bit:Int):Option (zgV):=asks (fun γ=>(lim F pr).seg [12] b7_1 ⟨bd 1 (vI kind :: vT key :: vT val :: bd 1 (vI bit :: .bptr 0 0 :: bd 3 (.bptr 1 0 :: bd 135 []))),[.box 34 (zam n),.box 25 [vU via.id,vH via.addr]]⟩) (zcL n via)
abbrev zgT:=(Bool × (List Entry) × (List Entry) × (List Finger) × (List Pair) × (List Pend) × (List Job) × (List Result) × Int × Int × Int × Bool × Int × Int × Int × Node × Node × Node × Node × Node × Node)
def zcK (n:Node) (via:Peer) (γ:Nat → Nat):zgT → X × St
 | (a0,a1,a2,a3,a4,a5,a6,a7,a8,a9,a10,a11,a12,a13,a14,a15,a16,a17,a18,a19,a20)=>(.ret,⟨bd 12 (vF a0 :: bd 133 []),[.box 34 (zam n),.box 25 [vU via.id,vH via.addr],.row 81 (γ 2) true (List.map zat a1),.row 81 (γ 3) true (List.map zat a2),.row 84 (γ 4) true (List.map zae a3),.row 78 (γ 5) true (List.map zan a4),.row 88 (γ 6) true (List.map zaX a5),.row 67 (γ 7) true (List.map eJob a6),.row 60 (γ 8) true (List.map zal a7),.box 34 [vU a8,vH a9,vI a10,vF a11,.sl 2 ((γ 2)),.sl 3 ((γ 3)),.sl 4 ((γ 4)),.sl 5 ((γ 5)),.sl 6 ((γ 6)),.sl 7 ((γ 7)),.sl 8 ((γ 8)),vW a12,vI a13,vI a14],.box 34 (zam a15),.box 34 (zam a16),.box 34 (zam a17),.box 34 (zam a18),.box 34 (zam a19),.box 34 (zam a20)]⟩)
instance {n via}:InjS (zcK n via):=⟨fun γ γ' x y h=>by
 rcases x with ⟨a0,a1,a2,a3,a4,a5,a6,a7,a8,a9,a10,a11,a12,a13,a14,a15,a16,a17,a18,a19,a20⟩ <;> rcases y with ⟨a0',a1',a2',a3',a4',a5',a6',a7',a8',a9',a10',a11',a12',a13',a14',a15',a16',a17',a18',a19',a20'⟩ <;> simp only [zcK] at h <;> exact inj_⟩
def zbD (n:Node) (via:Peer) (u:List Out) (j:Int) (v:List Out) (l:Int) (ok:Bool) (r2:List Entry) (r3:List Entry) (r4:List Finger) (r5:List Pair) (r6:List Pend) (r7:List Job) (r8:List Result) (zbl:Int) (za7:Int) (zbj:Int) (zbe:Bool) (zbF:Int) (zbk:Int) (za8:Int) (b10:Node) (b11:Node) (b12:Node) (b13:Node) (b14:Node) (b15:Node):Option (zgT):=asks (fun γ=>(lim F pr).seg [12] b7_0 ⟨bd 6 (.bptr 0 0 :: bd 6 (.bptr 9 0 :: bd 12 (.bptr 14 0 :: .lit 56 false (List.map eOut u) :: vI j :: .bptr 15 0 :: .lit 56 false (List.map eOut v) :: vI l :: vF ok :: bd 113 []))),[.box 34 (zam n),.box 25 [vU via.id,vH via.addr],.row 81 (γ 2) true (List.map zat r2),.row 81 (γ 3) true (List.map zat r3),.row 84 (γ 4) true (List.map zae r4),.row 78 (γ 5) true (List.map zan r5),.row 88 (γ 6) true (List.map zaX r6),.row 67 (γ 7) true (List.map eJob r7),.row 60 (γ 8) true (List.map zal r8),.box 34 [vU zbl,vH za7,vI zbj,vF zbe,.sl 2 ((γ 2)),.sl 3 ((γ 3)),.sl 4 ((γ 4)),.sl 5 ((γ 5)),.sl 6 ((γ 6)),.sl 7 ((γ 7)),.sl 8 ((γ 8)),vW zbF,vI zbk,vI za8],.box 34 (zam b10),.box 34 (zam b11),.box 34 (zam b12),.box 34 (zam b13),.box 34 (zam b14),.box 34 (zam b15)]⟩) (zcK n via)
def zgW (n:Node) (kind:Int) (key:ByteArray) (val:ByteArray) (via:Peer) (bit:Int):Option (zgV):=
 (zcj n).bind fun ⟨zaF,zav,zaD,zay,zaG,zaC,zaq,zaz,zax,zaB,zar,zaK,zaE,zaw⟩=>
 (zij (⟨(⟨zaF,zav⟩:Peer),zaD,zay,zaG,zaC,zaq,zaz,zax,zaB,zar,zaK,zaE,zaw⟩:Node) kind key val).bind fun ⟨r0,r1,r2⟩=>
 (zsC n kind key val).bind fun ⟨r01,r11,r21⟩=>
 (zs4 (⟨(⟨zaF,zav⟩:Peer),zaD,zay,zaG,zaC,zaq,zaz,zax,zaB,zar,zaK,zaE,zaw⟩:Node) via).bind fun ⟨r02,r12,r22⟩=>
 (zuE n via).bind fun ⟨r03,r13,r23⟩=>
 (zuS (⟨(⟨zaF,zav⟩:Peer),zaD,zay,zaG,zaC,zaq,zaz,zax,zaB,zar,zaK,zaE,zaw⟩:Node) bit).bind fun ⟨r04,r14,r24⟩=>
 (zwQ n bit).bind fun ⟨r05,r15,r25⟩=>
 (zjc r0 r01).bind fun res=>
 bif res then
  (zkL r1 r11).bind fun res1=>
  bif res1 then
   bif Ops.std.ieq r2 r21 then
    (zjc r02 r03).bind fun res2=>
    bif res2 then
     (zkL r12 r13).bind fun res3=>
     bif res3 then
      (zbD n via r14 r24 r15 r25 (Ops.std.ieq r22 r23) zaG zaC zaq zaz zax zaB zar zaF zav zaD zay zaK zaE zaw r0 r01 r02 r03 r04 r05).bind fun ⟨t12,r26,r3,r4,r5,r6,r7,r8,zbl,za7,zbj,zbe,zbF,zbk,za8,b10,b11,b12,b13,b14,b15⟩=>
      some (t12,r26,r3,r4,r5,r6,r7,r8)
     else
      (zbD n via r14 r24 r15 r25 false zaG zaC zaq zaz zax zaB zar zaF zav zaD zay zaK zaE zaw r0 r01 r02 r03 r04 r05).bind fun ⟨t12,r26,r3,r4,r5,r6,r7,r8,zbl,za7,zbj,zbe,zbF,zbk,za8,b10,b11,b12,b13,b14,b15⟩=>
      some (t12,r26,r3,r4,r5,r6,r7,r8)
    else
     (zbD n via r14 r24 r15 r25 false zaG zaC zaq zaz zax zaB zar zaF zav zaD zay zaK zaE zaw r0 r01 r02 r03 r04 r05).bind fun ⟨t12,r26,r3,r4,r5,r6,r7,r8,zbl,za7,zbj,zbe,zbF,zbk,za8,b10,b11,b12,b13,b14,b15⟩=>
     some (t12,r26,r3,r4,r5,r6,r7,r8)
   else
    (zbD n via r14 r24 r15 r25 false zaG zaC zaq zaz zax zaB zar zaF zav zaD zay zaK zaE zaw r0 r01 r02 r03 r04 r05).bind fun ⟨t12,r26,r3,r4,r5,r6,r7,r8,zbl,za7,zbj,zbe,zbF,zbk,za8,b10,b11,b12,b13,b14,b15⟩=>
    some (t12,r26,r3,r4,r5,r6,r7,r8)
  else
   (zbD n via r14 r24 r15 r25 false zaG zaC zaq zaz zax zaB zar zaF zav zaD zay zaK zaE zaw r0 r01 r02 r03 r04 r05).bind fun ⟨t12,r26,r3,r4,r5,r6,r7,r8,zbl,za7,zbj,zbe,zbF,zbk,za8,b10,b11,b12,b13,b14,b15⟩=>
   some (t12,r26,r3,r4,r5,r6,r7,r8)
 else
  (zbD n via r14 r24 r15 r25 false zaG zaC zaq zaz zax zaB zar zaF zav zaD zay zaK zaE zaw r0 r01 r02 r03 r04 r05).bind fun ⟨t12,r26,r3,r4,r5,r6,r7,r8,zbl,za7,zbj,zbe,zbF,zbk,za8,b10,b11,b12,b13,b14,b15⟩=>
  some (t12,r26,r3,r4,r5,r6,r7,r8)
theorem zrC {n kind key val via bit r} (h:zgW n kind key val via bit=some r):zip n kind key val via bit=some r:=by
 unfold zgW at h
 refine zao fun γ=>?_
 obtain ⟨r1,h1,h⟩:=zac h
 rcases r1 with ⟨zaF,zav,zaD,zay,zaG,zaC,zaq,zaz,zax,zaB,zar,zaK,zaE,zaw⟩
 obtain ⟨r2,h2,h⟩:=zac h
 rcases r2 with ⟨r0,r1,r2⟩
 obtain ⟨r3,h3,h⟩:=zac h
 rcases r3 with ⟨r01,r11,r21⟩
 obtain ⟨r4,h4,h⟩:=zac h
 rcases r4 with ⟨r02,r12,r22⟩
 obtain ⟨r5,h5,h⟩:=zac h
 rcases r5 with ⟨r03,r13,r23⟩
 obtain ⟨r6,h6,h⟩:=zac h
 rcases r6 with ⟨r04,r14,r24⟩
 obtain ⟨r7,h7,h⟩:=zac h
 rcases r7 with ⟨r05,r15,r25⟩
 obtain ⟨res,h8,h⟩:=zac h
 rcases zaa h with ⟨h9,h⟩ | ⟨h9,h⟩
 obtain ⟨res1,h10,h⟩:=zac h
 rcases zaa h with ⟨h11,h⟩ | ⟨h11,h⟩
 rcases zaa h with ⟨h12,h⟩ | ⟨h12,h⟩
 obtain ⟨res2,h13,h⟩:=zac h
 rcases zaa h with ⟨h14,h⟩ | ⟨h14,h⟩
 obtain ⟨res3,h15,h⟩:=zac h
 rcases zaa h with ⟨h16,h⟩ | ⟨h16,h⟩
 obtain ⟨r17,γ12,h17,h⟩:=zah h (gam [0,0,0,0,0,0,0,0,0])
 rcases r17 with ⟨t12,r26,r3,r4,r5,r6,r7,r8,zbl,za7,zbj,zbe,zbF,zbk,za8,b10,b11,b12,b13,b14,b15⟩
 cases h;refine ⟨gam [0,0,(γ12 2),(γ12 3),(γ12 4),(γ12 5),(γ12 6),(γ12 7),(γ12 8)],zaj ?_⟩;rotate_left
 obtain ⟨r17,γ12,h17,h⟩:=zah h (gam [0,0,0,0,0,0,0,0,0])
 rcases r17 with ⟨t12,r26,r3,r4,r5,r6,r7,r8,zbl,za7,zbj,zbe,zbF,zbk,za8,b10,b11,b12,b13,b14,b15⟩
 cases h;refine ⟨gam [0,0,(γ12 2),(γ12 3),(γ12 4),(γ12 5),(γ12 6),(γ12 7),(γ12 8)],zaj ?_⟩;rotate_left
 obtain ⟨r15,γ11,h15,h⟩:=zah h (gam [0,0,0,0,0,0,0,0,0])
 rcases r15 with ⟨t12,r26,r3,r4,r5,r6,r7,r8,zbl,za7,zbj,zbe,zbF,zbk,za8,b10,b11,b12,b13,b14,b15⟩
 cases h;refine ⟨gam [0,0,(γ11 2),(γ11 3),(γ11 4),(γ11 5),(γ11 6),(γ11 7),(γ11 8)],zaj ?_⟩;rotate_left
 obtain ⟨r13,γ10,h13,h⟩:=zah h (gam [0,0,0,0,0,0,0,0,0])
 rcases r13 with ⟨t12,r26,r3,r4,r5,r6,r7,r8,zbl,za7,zbj,zbe,zbF,zbk,za8,b10,b11,b12,b13,b14,b15⟩
 cases h;refine ⟨gam [0,0,(γ10 2),(γ10 3),(γ10 4),(γ10 5),(γ10 6),(γ10 7),(γ10 8)],zaj ?_⟩;rotate_left
 obtain ⟨r12,γ10,h12,h⟩:=zah h (gam [0,0,0,0,0,0,0,0,0])
 rcases r12 with ⟨t12,r26,r3,r4,r5,r6,r7,r8,zbl,za7,zbj,zbe,zbF,zbk,za8,b10,b11,b12,b13,b14,b15⟩
 cases h;refine ⟨gam [0,0,(γ10 2),(γ10 3),(γ10 4),(γ10 5),(γ10 6),(γ10 7),(γ10 8)],zaj ?_⟩;rotate_left
 obtain ⟨r10,γ9,h10,h⟩:=zah h (gam [0,0,0,0,0,0,0,0,0])
 rcases r10 with ⟨t12,r26,r3,r4,r5,r6,r7,r8,zbl,za7,zbj,zbe,zbF,zbk,za8,b10,b11,b12,b13,b14,b15⟩
 cases h;refine ⟨gam [0,0,(γ9 2),(γ9 3),(γ9 4),(γ9 5),(γ9 6),(γ9 7),(γ9 8)],zaj ?_⟩;rotate_left
 all_goals (dsimp only [R1,R3,zbu,zcK,zcL] at *;show Ifc.apart IF_ _ (zHo b7_0) _=_;generalize b7_0=c0 at *;exact fin_)
def zgU (n:Node) (via:Peer) (u:List Out) (j:Int) (v:List Out) (l:Int) (ok:Bool) (r2:List Entry) (r3:List Entry) (r4:List Finger) (r5:List Pair) (r6:List Pend) (r7:List Job) (r8:List Result) (zbl:Int) (za7:Int) (zbj:Int) (zbe:Bool) (zbF:Int) (zbk:Int) (za8:Int) (b10:Node) (b11:Node) (b12:Node) (b13:Node) (b14:Node) (b15:Node):Option (zgT):=
 bif ok then
  (zjc b14 b15).bind fun res=>
  bif res then
   (zkL u v).bind fun res1=>
   bif res1 then
    bif Ops.std.ieq j l then
     (zjc (⟨(⟨zbl,za7⟩:Peer),zbj,zbe,r2,r3,r4,r5,r6,r7,r8,zbF,zbk,za8⟩:Node) n).bind fun res2=>
     bif res2 then
      (zbz).bind fun res3=>
      some (res3,r2,r3,r4,r5,r6,r7,r8,zbl,za7,zbj,zbe,zbF,zbk,za8,b10,b11,b12,b13,b14,b15)
     else
      some (false,r2,r3,r4,r5,r6,r7,r8,zbl,za7,zbj,zbe,zbF,zbk,za8,b10,b11,b12,b13,b14,b15)
    else
     some (false,r2,r3,r4,r5,r6,r7,r8,zbl,za7,zbj,zbe,zbF,zbk,za8,b10,b11,b12,b13,b14,b15)
   else
    some (false,r2,r3,r4,r5,r6,r7,r8,zbl,za7,zbj,zbe,zbF,zbk,za8,b10,b11,b12,b13,b14,b15)
  else
   some (false,r2,r3,r4,r5,r6,r7,r8,zbl,za7,zbj,zbe,zbF,zbk,za8,b10,b11,b12,b13,b14,b15)
 else
  some (false,r2,r3,r4,r5,r6,r7,r8,zbl,za7,zbj,zbe,zbF,zbk,za8,b10,b11,b12,b13,b14,b15)
theorem zrB {n via u j v l ok r2 r3 r4 r5 r6 r7 r8 zbl za7 zbj zbe zbF zbk za8 b10 b11 b12 b13 b14 b15 r} (h:zgU n via u j v l ok r2 r3 r4 r5 r6 r7 r8 zbl za7 zbj zbe zbF zbk za8 b10 b11 b12 b13 b14 b15=some r):zbD n via u j v l ok r2 r3 r4 r5 r6 r7 r8 zbl za7 zbj zbe zbF zbk za8 b10 b11 b12 b13 b14 b15=some r:=by
 unfold zgU at h
 refine zao fun γ=>?_
 rcases zaa h with ⟨h1,h⟩ | ⟨h1,h⟩
 obtain ⟨res,h2,h⟩:=zac h
 rcases zaa h with ⟨h3,h⟩ | ⟨h3,h⟩
 obtain ⟨res1,h4,h⟩:=zac h
 rcases zaa h with ⟨h5,h⟩ | ⟨h5,h⟩
 rcases zaa h with ⟨h6,h⟩ | ⟨h6,h⟩
 obtain ⟨res2,h7,h⟩:=zac h
 rcases zaa h with ⟨h8,h⟩ | ⟨h8,h⟩
 obtain ⟨res3,h9,h⟩:=zac h
 cases h;refine ⟨gam [0,0,(γ 2),(γ 3),(γ 4),(γ 5),(γ 6),(γ 7),(γ 8)],zaj ?_⟩;rotate_left
 cases h;refine ⟨gam [0,0,(γ 2),(γ 3),(γ 4),(γ 5),(γ 6),(γ 7),(γ 8)],zaj ?_⟩;rotate_left
 cases h;refine ⟨gam [0,0,(γ 2),(γ 3),(γ 4),(γ 5),(γ 6),(γ 7),(γ 8)],zaj ?_⟩;rotate_left
 cases h;refine ⟨gam [0,0,(γ 2),(γ 3),(γ 4),(γ 5),(γ 6),(γ 7),(γ 8)],zaj ?_⟩;rotate_left
 cases h;refine ⟨gam [0,0,(γ 2),(γ 3),(γ 4),(γ 5),(γ 6),(γ 7),(γ 8)],zaj ?_⟩;rotate_left
 cases h;refine ⟨gam [0,0,(γ 2),(γ 3),(γ 4),(γ 5),(γ 6),(γ 7),(γ 8)],zaj ?_⟩;rotate_left
 all_goals (dsimp only [R1,zcK] at *;show Ifc.apart IF_ _ zHn _=_;exact fin_)
def zjg (n:Node) (kind:Int) (key:ByteArray) (val:ByteArray) (via:Peer) (bit:Int):Option (Bool):=
 (zlC n).bind fun res=>
 bif res then zbz else
 bif Ops.std.ilt 300 (Ops.std.slen key) then zbz else
 bif Ops.std.ilt 700 (Ops.std.slen val) then zbz else
 (zip n kind key val via bit).bind fun ⟨t12,r2,r3,r4,r5,r6,r7,r8⟩=>
 some t12
theorem zuR {n kind key val via bit r} (h:zjg n kind key val via bit=some r):zpB n kind key val via bit=some r:=by
 unfold zjg at h
 refine zau ?_
 obtain ⟨res,h1,h⟩:=zac h
 rcases zaa h with ⟨h2,h⟩ | ⟨h2,h⟩
 have h3:=ask_some h
 rcases r with res1
 refine zab rfl ?_;rotate_left
 rcases zaa h with ⟨h3,h⟩ | ⟨h3,h⟩
 have h4:=ask_some h
 rcases r with res1
 refine zab rfl ?_;rotate_left
 rcases zaa h with ⟨h4,h⟩ | ⟨h4,h⟩
 have h5:=ask_some h
 rcases r with res1
 refine zab rfl ?_;rotate_left
 obtain ⟨r5,γ2,h5,h⟩:=zah h (gam [])
 rcases r5 with ⟨t12,r2,r3,r4,r5,r6,r7,r8⟩
 cases h;refine zab rfl ?_;rotate_left
 all_goals (dsimp only [R1,zcL] at *;show zas IF_ (g7F b7_1) _ _=_;generalize b7_1=c0 at *;exact fin_)
def zdD (γ:Nat → Nat):(Bool × Node) → X × St
 | (a0,a1)=>(.ret,⟨bd 6 (vF a0 :: bd 97 []),[.box 34 (zam a1)]⟩)
instance :InjS zdD:=⟨fun γ γ' x y h=>by
 rcases x with ⟨a0,a1⟩ <;> rcases y with ⟨a0',a1'⟩ <;> simp only [zdD] at h <;> exact inj_⟩
def zg2 (n:Node) (id:Int) (why:Int) (k:Int):Option ((Bool × Node)):=asks (fun γ=>(lim F pr).seg [6] b8_2 ⟨bd 1 (vI id :: vI why :: .bptr 0 0 :: bd 3 (vI k :: bd 96 [])),[.box 34 (zam n)]⟩) zdD
def zdB (n:Node) (id:Int) (why:Int) (γ:Nat → Nat):Bool ⊕ Unit → X × St
 | .inl a0=>(.ret,⟨bd 6 (vF a0 :: bd 97 []),[.box 34 (zam n)]⟩)
 | .inr ()=>(.brk 0,⟨bd 1 (vI id :: vI why :: .bptr 0 0 :: bd 100 []),[.box 34 (zam n)]⟩)
instance {n id why}:InjS (zdB n id why):=⟨fun γ γ' x y h=>by
 rcases x with a0 | _ <;> rcases y with a0' | _ <;> simp only [zdB] at h <;> exact inj_⟩
def zdn (n:Node) (id:Int) (why:Int) (k:Int) (i:Int):Option (Bool ⊕ Unit):=asks (fun γ=>(lim F pr).loop [7,8,2,3,1] 1 b8_0 ⟨bd 1 (vI id :: vI why :: .bptr 0 0 :: bd 3 (vI k :: vI i :: bd 95 [])),[.box 34 (zam n)]⟩) (zdB n id why)
def zdC (id:Int) (γ:Nat → Nat):Node → X × St
 | a0=>(.brk 2,⟨bd 1 (vI id :: bd 1 (.bptr 0 0 :: bd 100 [])),[.box 34 (zam a0)]⟩)
instance {id}:InjS (zdC id):=⟨fun γ γ' x y h=>by
 rcases x with a0 <;> rcases y with a0' <;> simp only [zdC] at h <;> exact inj_⟩
def zdo (id:Int) (why:Int) (i:Int) (b0:Node):Option (Node):=asks (fun γ=>(lim F pr).loop [2,9,3,1] 1 b8_1 ⟨bd 1 (vI id :: vI why :: .bptr 0 0 :: bd 5 (vI i :: bd 94 [])),[.box 34 (zam b0)]⟩) (zdC id)
def zeS (n:Node) (id:Int) (why:Int) (k:Int):Option ((Bool × Node)):=
 (zdn n id why k 0).bind fun r=>match r with
  | .inl t6=>
   some (t6,n)
  | .inr ()=>
   (zdo id why 0 (⟨n.me,n.clock,n.joined,n.pred,n.list,n.fingers,n.store,n.pends,n.jobs,[],n.rid,n.jobID,n.nextBit⟩:Node)).bind fun b0=>
   (zhz b0.jobs id).bind fun res=>
   bif Ops.std.ilt res 0 then
    bif Ops.std.ieq (xlen zal b0.results) 1 then
     (xget zal b0.results 0).bind fun x=>
     bif Ops.std.ieq x.job id then
      (zbz).bind fun res1=>
      some (res1,b0)
     else
      some (false,b0)
    else
     some (false,b0)
   else
    some (false,b0)
theorem zl7 {n id why k r} (h:zeS n id why k=some r):zg2 n id why k=some r:=by
 unfold zeS at h
 refine zao fun γ=>?_
 obtain ⟨r1,γ1,h1,h⟩:=zah h (gam [])
 rcases r1 with t6 | _
 cases h;refine ⟨gam [],zaj ?_⟩;rotate_left
 obtain ⟨b0,γ2,h2,h⟩:=zah h (gam [])
 obtain ⟨res,h3,h⟩:=zac h
 rcases zaa h with ⟨h4,h⟩ | ⟨h4,h⟩
 rcases zaa h with ⟨h5,h⟩ | ⟨h5,h⟩
 obtain ⟨x,h6,h⟩:=zac h
 rcases zaa h with ⟨h7,h⟩ | ⟨h7,h⟩
 obtain ⟨res1,h8,h⟩:=zac h
 cases h;refine ⟨gam [],zaj ?_⟩;rotate_left
 cases h;refine ⟨gam [],zaj ?_⟩;rotate_left
 cases h;refine ⟨gam [],zaj ?_⟩;rotate_left
 cases h;refine ⟨gam [],zaj ?_⟩;rotate_left
 all_goals (dsimp only [R1,zdB,zdC,zdD] at *;show Ifc.apart IF_ _ (zHr b8_0 b8_1) _=_;generalize b8_0=c0,b8_1=c1 at *;exact fin_)
def zeQ (n:Node) (id:Int) (why:Int) (k:Int) (i:Int):Option (Bool ⊕ Unit):=
 bif Ops.std.ilt i (xlen eJob n.jobs) then
  bif Ops.std.ieq i k then zdn n id why k (Ops.std.iadd .i64 i 1) else
  (xget eJob n.jobs i).bind fun x=>
  bif Ops.std.ieq x.id id then
   (zbz).bind fun res=>
   some (.inl res)
  else
   zdn n id why k (Ops.std.iadd .i64 i 1)
 else
  some (.inr ())
theorem zl5 {n id why k i r} (h:zeQ n id why k i=some r):zdn n id why k i=some r:=by
 unfold zeQ at h
 refine zao fun γ=>?_
 rcases zaa h with ⟨h1,h⟩ | ⟨h1,h⟩
 rcases zaa h with ⟨h2,h⟩ | ⟨h2,h⟩
 replace h:=zak h (gam []);obtain ⟨γ',h0⟩:=h;refine ⟨γ',zad ?_⟩;rotate_left
 obtain ⟨x,h3,h⟩:=zac h
 rcases zaa h with ⟨h4,h⟩ | ⟨h4,h⟩
 obtain ⟨res,h5,h⟩:=zac h
 cases h;refine ⟨gam [],zad ?_⟩;rotate_left
 replace h:=zak h (gam []);obtain ⟨γ',h0⟩:=h;refine ⟨γ',zad ?_⟩;rotate_left
 cases h;refine ⟨gam [],zad ?_⟩;rotate_left
 all_goals (dsimp only [R1,zdB] at *;show zaT IF_ _ _ b8_0 zHp _=_;generalize b8_0=c0 at *;exact fin_)
def zeR (id:Int) (why:Int) (i:Int) (b0:Node):Option (Node):=
 bif Ops.std.ilt i 4 then
  (zoQ b0 id why).bind fun ⟨r0,r1⟩=>
  zdo id why (Ops.std.iadd .i64 i 1) r0
 else
  some b0
theorem zl6 {id why i b0 r} (h:zeR id why i b0=some r):zdo id why i b0=some r:=by
 unfold zeR at h
 refine zao fun γ=>?_
 rcases zaa h with ⟨h1,h⟩ | ⟨h1,h⟩
 obtain ⟨r2,h2,h⟩:=zac h
 rcases r2 with ⟨r0,r1⟩
 replace h:=zak h (gam []);obtain ⟨γ',h0⟩:=h;refine ⟨γ',zad ?_⟩;rotate_left
 cases h;refine ⟨gam [],zad ?_⟩;rotate_left
 all_goals (dsimp only [R2,zdC] at *;show zaT IF_ _ _ b8_1 zHq _=_;generalize b8_1=c0 at *;exact fin_)
def zkW (n:Node) (id:Int) (why:Int):Option (Bool):=
 (zhz n.jobs id).bind fun res=>
 (zlC n).bind fun res1=>
 bif res1 then zbz else
 bif Ops.std.ilt res 0 then zbz else
 (xget eJob n.jobs res).bind fun x=>
 bif Ops.std.ieq x.kind 2 then
  bif Ops.std.ilt x.tries 0 then zbz else
  (zg2 n id why res).bind fun ⟨t6,b0⟩=>
  some t6
 else
  bif Ops.std.ieq x.kind 3 then
   bif Ops.std.ilt x.tries 0 then zbz else
   (zg2 n id why res).bind fun ⟨t6,b0⟩=>
   some t6
  else
   zbz
theorem zw2 {n id why r} (h:zkW n id why=some r):zs2 n id why=some r:=by
 unfold zkW at h
 refine zau ?_
 obtain ⟨res,h1,h⟩:=zac h
 obtain ⟨res1,h2,h⟩:=zac h
 rcases zaa h with ⟨h3,h⟩ | ⟨h3,h⟩
 have h4:=ask_some h
 rcases r with res2
 refine zab rfl ?_;rotate_left
 rcases zaa h with ⟨h4,h⟩ | ⟨h4,h⟩
 have h5:=ask_some h
 rcases r with res2
 refine zab rfl ?_;rotate_left
 obtain ⟨x,h5,h⟩:=zac h
 rcases zaa h with ⟨h6,h⟩ | ⟨h6,h⟩
 rcases zaa h with ⟨h7,h⟩ | ⟨h7,h⟩
 have h8:=ask_some h
 rcases r with res2
 refine zab rfl ?_;rotate_left
 obtain ⟨r8,γ3,h8,h⟩:=zah h (gam [])
 rcases r8 with ⟨t6,b0⟩
 cases h;refine zab rfl ?_;rotate_left
 rcases zaa h with ⟨h7,h⟩ | ⟨h7,h⟩
 rcases zaa h with ⟨h8,h⟩ | ⟨h8,h⟩
 have h9:=ask_some h
 rcases r with res2
 refine zab rfl ?_;rotate_left
 obtain ⟨r9,γ3,h9,h⟩:=zah h (gam [])
 rcases r9 with ⟨t6,b0⟩
 cases h;refine zab rfl ?_;rotate_left
 have h8:=ask_some h
 rcases r with res2
 refine zab rfl ?_;rotate_left
 all_goals (dsimp only [R1,zdD] at *;show zas IF_ (g8F b8_2) _ _=_;generalize b8_2=c0 at *;exact fin_)
def zfF (n:Node) (γ:Nat → Nat):Bool → X × St
 | a0=>(.ret,⟨bd 2 (vF a0 :: bd 91 []),[.box 34 (zam n)]⟩)
instance {n}:InjS (zfF n):=⟨fun γ γ' x y h=>by
 rcases x with a0 <;> rcases y with a0' <;> simp only [zfF] at h <;> exact inj_⟩
def znd (n:Node):Option (Bool):=asks (fun γ=>(lim F pr).seg [2] zyf ⟨bd 1 (.bptr 0 0 :: bd 92 []),[.box 34 (zam n)]⟩) (zfF n)
def zfD (n:Node) (γ:Nat → Nat):Unit ⊕ Unit → X × St
 | .inl ()=>(.ret,⟨bd 2 (vF true :: bd 91 []),[.box 34 (zam n)]⟩)
 | .inr ()=>(.brk 0,⟨bd 1 (.bptr 0 0 :: bd 92 []),[.box 34 (zam n)]⟩)
instance {n}:InjS (zfD n):=⟨fun γ γ' x y h=>by
 rcases x with _ | _ <;> rcases y with _ | _ <;> simp only [zfD] at h <;> exact inj_⟩
def zhL (n:Node) (i:Int):Option (Unit ⊕ Unit):=asks (fun γ=>(lim F pr).loop [3,1] 1 ztd ⟨bd 1 (.bptr 0 0 :: bd 1 (vI i :: bd 90 [])),[.box 34 (zam n)]⟩) (zfD n)
def zfE (n:Node) (γ:Nat → Nat):Unit ⊕ Unit → X × St
 | .inl ()=>(.ret,⟨bd 2 (vF true :: bd 91 []),[.box 34 (zam n)]⟩)
 | .inr ()=>(.brk 2,⟨bd 94 [],[.box 34 (zam n)]⟩)
instance {n}:InjS (zfE n):=⟨fun γ γ' x y h=>by
 rcases x with _ | _ <;> rcases y with _ | _ <;> simp only [zfE] at h <;> exact inj_⟩
def zhM (n:Node) (i:Int):Option (Unit ⊕ Unit):=asks (fun γ=>(lim F pr).loop [1,4] 1 zte ⟨bd 1 (.bptr 0 0 :: bd 2 (vI i :: bd 89 [])),[.box 34 (zam n)]⟩) (zfE n)
def zkV (n:Node):Option (Bool):=
 (zhL n 0).bind fun r=>match r with
  | .inl ()=>
   some true
  | .inr ()=>
   (zhM n 0).bind fun r=>match r with
    | .inl ()=>
     some true
    | .inr ()=>
     some false
theorem zw1 {n r} (h:zkV n=some r):znd n=some r:=by
 unfold zkV at h
 refine zao fun γ=>?_
 obtain ⟨r1,γ1,h1,h⟩:=zah h (gam [])
 rcases r1 with _ | _
 cases h;refine ⟨gam [],zaj ?_⟩;rotate_left
 obtain ⟨r2,γ2,h2,h⟩:=zah h (gam [])
 rcases r2 with _ | _
 cases h;refine ⟨gam [],zaj ?_⟩;rotate_left
 cases h;refine ⟨gam [],zaj ?_⟩;rotate_left
 all_goals (dsimp only [zfD,zfE,zfF] at *;show Ifc.apart IF_ _ (zDT ztd zte) _=_;generalize ztd=c0,zte=c1 at *;exact fin_)
def zih (n:Node) (i:Int):Option (Unit ⊕ Unit):=
 bif Ops.std.ilt i (xlen eJob n.jobs) then
  (xget eJob n.jobs i).bind fun x=>
  bif Ops.std.ilt 300 (Ops.std.slen x.key) then some (.inl ()) else
  bif Ops.std.ilt 700 (Ops.std.slen x.val) then some (.inl ()) else
  zhL n (Ops.std.iadd .i64 i 1)
 else
  some (.inr ())
theorem zpz {n i r} (h:zih n i=some r):zhL n i=some r:=by
 unfold zih at h
 refine zao fun γ=>?_
 rcases zaa h with ⟨h1,h⟩ | ⟨h1,h⟩
 obtain ⟨x,h2,h⟩:=zac h
 rcases zaa h with ⟨h3,h⟩ | ⟨h3,h⟩
 cases h;refine ⟨gam [],zad ?_⟩;rotate_left
 rcases zaa h with ⟨h4,h⟩ | ⟨h4,h⟩
 cases h;refine ⟨gam [],zad ?_⟩;rotate_left
 replace h:=zak h (gam []);obtain ⟨γ',h0⟩:=h;refine ⟨γ',zad ?_⟩;rotate_left
 cases h;refine ⟨gam [],zad ?_⟩;rotate_left
 all_goals (dsimp only [zfD] at *;show zaT IF_ _ _ ztd zDR _=_;generalize ztd=c0 at *;exact fin_)
def zii (n:Node) (i:Int):Option (Unit ⊕ Unit):=
 bif Ops.std.ilt i (xlen zal n.results) then
  (xget zal n.results i).bind fun x=>
  bif Ops.std.ilt 300 (Ops.std.slen x.key) then some (.inl ()) else
  bif Ops.std.ilt 700 (Ops.std.slen x.val) then some (.inl ()) else
  zhM n (Ops.std.iadd .i64 i 1)
 else
  some (.inr ())
theorem zpA {n i r} (h:zii n i=some r):zhM n i=some r:=by
 unfold zii at h
 refine zao fun γ=>?_
 rcases zaa h with ⟨h1,h⟩ | ⟨h1,h⟩
 obtain ⟨x,h2,h⟩:=zac h
 rcases zaa h with ⟨h3,h⟩ | ⟨h3,h⟩
 cases h;refine ⟨gam [],zad ?_⟩;rotate_left
 rcases zaa h with ⟨h4,h⟩ | ⟨h4,h⟩
 cases h;refine ⟨gam [],zad ?_⟩;rotate_left
 replace h:=zak h (gam []);obtain ⟨γ',h0⟩:=h;refine ⟨γ',zad ?_⟩;rotate_left
 cases h;refine ⟨gam [],zad ?_⟩;rotate_left
 all_goals (dsimp only [zfE] at *;show zaT IF_ _ _ zte zDS _=_;generalize zte=c0 at *;exact fin_)
def zll (n:Node):Option (Bool):=
 bif Ops.std.ilt 5 (xlen zat n.pred) then some true else
 bif Ops.std.ilt 40 (xlen zat n.list) then some true else
 bif Ops.std.ilt 80 (xlen zae n.fingers) then some true else
 bif Ops.std.ilt 100 (xlen zaX n.pends) then some true else
 bif Ops.std.ilt 20 (xlen eJob n.jobs) then some true else
 bif Ops.std.ilt 40 (xlen zal n.results) then some true else
 (zsZ n.store).bind fun res=>
 bif res then some true else
 znd n
theorem zBe {n r} (h:zll n=some r):zlC n=some r:=by
 unfold zll at h
 refine zau ?_
 rcases zaa h with ⟨h1,h⟩ | ⟨h1,h⟩
 cases h;refine zab rfl ?_;rotate_left
 rcases zaa h with ⟨h2,h⟩ | ⟨h2,h⟩
 cases h;refine zab rfl ?_;rotate_left
 rcases zaa h with ⟨h3,h⟩ | ⟨h3,h⟩
 cases h;refine zab rfl ?_;rotate_left
 rcases zaa h with ⟨h4,h⟩ | ⟨h4,h⟩
 cases h;refine zab rfl ?_;rotate_left
 rcases zaa h with ⟨h5,h⟩ | ⟨h5,h⟩
 cases h;refine zab rfl ?_;rotate_left
 rcases zaa h with ⟨h6,h⟩ | ⟨h6,h⟩
 cases h;refine zab rfl ?_;rotate_left
 obtain ⟨res,h7,h⟩:=zac h
 rcases zaa h with ⟨h8,h⟩ | ⟨h8,h⟩
 cases h;refine zab rfl ?_;rotate_left
 obtain ⟨γ2,h9⟩:=zak h (gam [])
 rcases r with t2
 refine zab rfl ?_;rotate_left
 all_goals (dsimp only [R1,zfF] at *;show zas IF_ (g11F zyf) _ _=_;generalize zyf=c0 at *;exact fin_)
def znN (s:ByteArray):Option (Bool):=
 bif Ops.std.ilt 0 (Ops.std.slen s) then
  bif Ops.std.ilt (Ops.std.slen s) 97 then
   (zsm s).bind fun res=>
   bif res then
    (znM s).bind fun res1=>
    some (Ops.std.ilt (xlen vT res1) 33)
   else
    some false
  else
   some false
 else
  some false
theorem zxp {s r} (h:znN s=some r):zkI s=some r:=by
 unfold znN at h
 refine zau ?_
 rcases zaa h with ⟨h1,h⟩ | ⟨h1,h⟩
 rcases zaa h with ⟨h2,h⟩ | ⟨h2,h⟩
 obtain ⟨res,h3,h⟩:=zac h
 rcases zaa h with ⟨h4,h⟩ | ⟨h4,h⟩
 obtain ⟨res1,h5,h⟩:=zac h
 cases h;refine zab rfl ?_;rotate_left
 cases h;refine zab rfl ?_;rotate_left
 cases h;refine zab rfl ?_;rotate_left
 cases h;refine zab rfl ?_;rotate_left
 all_goals (dsimp only [R1] at *;show zas IF_ g25F _ _=_;exact fin_)
def zeD (kind:Int) (key:ByteArray) (val:ByteArray) (γ:Nat → Nat):(Int × Node) → X × St
 | (a0,a1)=>(.nor,⟨bd 1 (vI kind :: vT key :: vT val :: .bptr 0 0 :: bd 3 (.bptr 1 0 :: bd 2 (vI a0 :: bd 41 []))),[.box 34 (zam a1),.box 34 ([vU 0,vH 0,vI 0,vF false,.lit 0 true [],.lit 0 true [],.lit 0 true [],.lit 0 true [],.lit 0 true [],.lit 0 true [],.lit 0 true [],vW 0,vI 0,vI 0]),.row 56 (γ 2) false (List.map eOut [])]⟩)
instance {kind key val}:InjS (zeD kind key val):=⟨fun γ γ' x y h=>by
 rcases x with ⟨a0,a1⟩ <;> rcases y with ⟨a0',a1'⟩ <;> simp only [zeD] at h <;> exact inj_⟩
def zeb (n:Node) (kind:Int) (key:ByteArray) (val:ByteArray) (t12:Bool):Option ((Int × Node)):=asks (fun γ=>(lim F pr).seg [11,4,1,3,2,8] zyj ⟨bd 1 (vI kind :: vT key :: vT val :: .bptr 0 0 :: bd 3 (.bptr 1 0 :: bd 2 (vI 0 :: vF t12 :: bd 40 []))),[.box 34 (zam n),.box 34 ([vU 0,vH 0,vI 0,vF false,.lit 0 true [],.lit 0 true [],.lit 0 true [],.lit 0 true [],.lit 0 true [],.lit 0 true [],.lit 0 true [],vW 0,vI 0,vI 0]),.row 56 (γ 2) false (List.map eOut [])]⟩) (zeD kind key val)
abbrev zka:=((List Out) × Int × Node × Node) ⊕ (Int × Node × Node × (List Entry) × (List Entry) × (List Finger) × (List Pair) × (List Pend) × (List Job) × (List Result))
def zeF (γ:Nat → Nat):zka → X × St
 | .inl (a0,a1,a2,a3)=>(.ret,⟨bd 8 (.bptr 1 0 :: .lit 56 false (List.map eOut a0) :: vI a1 :: bd 42 []),[.box 34 (zam a2),.box 34 (zam a3),.row 56 (γ 2) false (List.map eOut [])]⟩)
 | .inr (b0,b1,b2,b3,b4,b5,b6,b7,b8,b9)=>(.ret,⟨bd 8 (.bptr 1 0 :: .sl 10 ((γ 10)) :: vI b0 :: bd 42 []),[.box 34 (zam b1),.box 34 (zam b2),.row 56 (γ 2) false (List.map eOut []),.row 81 (γ 3) true (List.map zat b3),.row 81 (γ 4) true (List.map zat b4),.row 84 (γ 5) true (List.map zae b5),.row 78 (γ 6) true (List.map zan b6),.row 88 (γ 7) true (List.map zaX b7),.row 67 (γ 8) true (List.map eJob b8),.row 60 (γ 9) true (List.map zal b9),.row 56 (γ 10) false (List.map eOut [])]⟩)
instance :InjS zeF:=⟨fun γ γ' x y h=>by
 rcases x with ⟨a0,a1,a2,a3⟩ | ⟨b0,b1,b2,b3,b4,b5,b6,b7,b8,b9⟩ <;> rcases y with ⟨a0',a1',a2',a3'⟩ | ⟨b0',b1',b2',b3',b4',b5',b6',b7',b8',b9'⟩ <;> simp only [zeF] at h <;> exact inj_⟩
def zec (kind:Int) (key:ByteArray) (val:ByteArray) (e_:Int) (b0:Node):Option (zka):=asks (fun γ=>(lim F pr).seg [8,9,10] zyk ⟨bd 1 (vI kind :: vT key :: vT val :: .bptr 0 0 :: bd 3 (.bptr 1 0 :: bd 2 (vI e_ :: bd 41 []))),[.box 34 (zam b0),.box 34 ([vU 0,vH 0,vI 0,vF false,.lit 0 true [],.lit 0 true [],.lit 0 true [],.lit 0 true [],.lit 0 true [],.lit 0 true [],.lit 0 true [],vW 0,vI 0,vI 0]),.row 56 (γ 2) false (List.map eOut [])]⟩) zeF
def zj9 (n:Node) (kind:Int) (key:ByteArray) (val:ByteArray) (t12:Bool):Option ((Int × Node)):=
 bif t12 then some (1,n) else
 (ztK key).bind fun res=>
 bif res then
  bif Ops.std.ieq kind 2 then
   bif Ops.std.ilt 512 (Ops.std.slen val) then some (5,n) else
   bif n.joined then
    some (0,(⟨n.me,n.clock,true,n.pred,n.list,n.fingers,n.store,n.pends,n.jobs,n.results,n.rid,n.jobID,n.nextBit⟩:Node))
   else
    some (17,(⟨n.me,n.clock,false,n.pred,n.list,n.fingers,n.store,n.pends,n.jobs,n.results,n.rid,n.jobID,n.nextBit⟩:Node))
  else
   bif n.joined then
    some (0,(⟨n.me,n.clock,true,n.pred,n.list,n.fingers,n.store,n.pends,n.jobs,n.results,n.rid,n.jobID,n.nextBit⟩:Node))
   else
    some (17,(⟨n.me,n.clock,false,n.pred,n.list,n.fingers,n.store,n.pends,n.jobs,n.results,n.rid,n.jobID,n.nextBit⟩:Node))
 else
  some (7,n)
theorem zv5 {n kind key val t12 r} (h:zj9 n kind key val t12=some r):zeb n kind key val t12=some r:=by
 unfold zj9 at h
 refine zao fun γ=>?_
 rcases zaa h with ⟨h1,h⟩ | ⟨h1,h⟩
 cases h;refine ⟨gam [0,0,(γ 2)],zaj ?_⟩;rotate_left
 obtain ⟨res,h2,h⟩:=zac h
 rcases zaa h with ⟨h3,h⟩ | ⟨h3,h⟩
 rcases zaa h with ⟨h4,h⟩ | ⟨h4,h⟩
 rcases zaa h with ⟨h5,h⟩ | ⟨h5,h⟩
 cases h;refine ⟨gam [0,0,(γ 2)],zaj ?_⟩;rotate_left
 rcases zaa h with ⟨h6,h⟩ | ⟨h6,h⟩
 cases h;refine ⟨gam [0,0,(γ 2)],zaj ?_⟩;rotate_left
 cases h;refine ⟨gam [0,0,(γ 2)],zaj ?_⟩;rotate_left
 rcases zaa h with ⟨h5,h⟩ | ⟨h5,h⟩
 cases h;refine ⟨gam [0,0,(γ 2)],zaj ?_⟩;rotate_left
 cases h;refine ⟨gam [0,0,(γ 2)],zaj ?_⟩;rotate_left
 cases h;refine ⟨gam [0,0,(γ 2)],zaj ?_⟩;rotate_left
 all_goals (dsimp only [R1,zeD] at *;show Ifc.apart IF_ _ zD3 _=_;(try dsimp only [zai,zat,zae,zan,zaX,eJob,zal,zaJ,eMsg,eOut,zbR,cJob,zam,cMsg,zaR,capp] at *);(try simp only [List.map_cons,List.map_nil] at *);(try generalize n.joined=q0 at *);exact fin_)
def zeE (kind:Int) (key:ByteArray) (val:ByteArray) (e_:Int) (b0:Node):Option (zka):=
 bif Ops.std.ieq e_ 0 then
  bif Ops.std.ieq kind 3 then
   (zmf key).bind fun res=>
   (zhP b0 (⟨0,kind,0,key,⟨#[]⟩,res,(⟨0,0⟩:Peer),(⟨0,0⟩:Peer),false,0,0,0⟩:Job)).bind fun ⟨r0,r1,r2⟩=>
   some (.inl (r1,r2,b0,r0))
  else
   (zmf key).bind fun res=>
   (zhP b0 (⟨0,kind,0,key,val,res,(⟨0,0⟩:Peer),(⟨0,0⟩:Peer),false,0,0,0⟩:Job)).bind fun ⟨r0,r1,r2⟩=>
   some (.inl (r1,r2,b0,r0))
 else
  (zcj b0).bind fun ⟨zaF,zav,zaD,zay,zaG,zaC,zaq,zaz,zax,zaB,zar,zaK,zaE,zaw⟩=>
  some (.inr (e_,b0,(⟨(⟨zaF,zav⟩:Peer),zaD,zay,zaG,zaC,zaq,zaz,zax,zaB,zar,zaK,zaE,zaw⟩:Node),zaG,zaC,zaq,zaz,zax,zaB,zar))
theorem zkb {kind key val e_ b0 r} (h:zeE kind key val e_ b0=some r):zec kind key val e_ b0=some r:=by
 unfold zeE at h
 refine zao fun γ=>?_
 rcases zaa h with ⟨h1,h⟩ | ⟨h1,h⟩
 rcases zaa h with ⟨h2,h⟩ | ⟨h2,h⟩
 obtain ⟨res,h3,h⟩:=zac h
 obtain ⟨r4,h4,h⟩:=zac h
 rcases r4 with ⟨r0,r1,r2⟩
 cases h;refine ⟨gam [0,0,(γ 2)],zaj ?_⟩;rotate_left
 obtain ⟨res,h3,h⟩:=zac h
 obtain ⟨r4,h4,h⟩:=zac h
 rcases r4 with ⟨r0,r1,r2⟩
 cases h;refine ⟨gam [0,0,(γ 2)],zaj ?_⟩;rotate_left
 obtain ⟨r2,h2,h⟩:=zac h
 rcases r2 with ⟨zaF,zav,zaD,zay,zaG,zaC,zaq,zaz,zax,zaB,zar,zaK,zaE,zaw⟩
 cases h;refine ⟨gam [0,0,(γ 2),0,0,0,0,0,0,0,0],zaj ?_⟩;rotate_left
 all_goals (dsimp only [R1,R3,zbu,zeF] at *;show Ifc.apart IF_ _ zD4 _=_;exact fin_)
def zng (n:Node) (kind:Int) (key:ByteArray) (val:ByteArray):Option ((Node × (List Out) × Int)):=
 bif Ops.std.ieq kind 2 then
  (zeb n kind key val false).bind fun ⟨e_,b0⟩=>
  (zec kind key val e_ b0).bind fun r=>match r with
   | .inl (t9,t10,b01,b1)=>
    some (b1,t9,t10)
   | .inr (t10,b01,b1,r3,r4,r5,r6,r7,r8,r9)=>
    some (b1,[],t10)
 else
  bif Ops.std.ieq kind 3 then
   (zeb n kind key val false).bind fun ⟨e_,b0⟩=>
   (zec kind key val e_ b0).bind fun r=>match r with
    | .inl (t9,t10,b01,b1)=>
     some (b1,t9,t10)
    | .inr (t10,b01,b1,r3,r4,r5,r6,r7,r8,r9)=>
     some (b1,[],t10)
  else
   (zeb n kind key val true).bind fun ⟨e_,b0⟩=>
   (zec kind key val e_ b0).bind fun r=>match r with
    | .inl (t9,t10,b01,b1)=>
     some (b1,t9,t10)
    | .inr (t10,b01,b1,r3,r4,r5,r6,r7,r8,r9)=>
     some (b1,[],t10)
theorem zz9 {n kind key val r} (h:zng n kind key val=some r):zij n kind key val=some r:=by
 unfold zng at h
 refine zau ?_
 rcases zaa h with ⟨h1,h⟩ | ⟨h1,h⟩
 obtain ⟨r2,γ1,h2,h⟩:=zah h (gam [0,0,0])
 rcases r2 with ⟨e_,b0⟩
 obtain ⟨r3,γ2,h3,h⟩:=zah h (gam [0,0,(γ1 2)])
 rcases r3 with ⟨t9,t10,b01,b1⟩ | ⟨t10,b01,b1,r3,r4,r5,r6,r7,r8,r9⟩
 cases h;refine zab rfl ?_;rotate_left
 cases h;refine zab rfl ?_;rotate_left
 rcases zaa h with ⟨h2,h⟩ | ⟨h2,h⟩
 obtain ⟨r3,γ1,h3,h⟩:=zah h (gam [0,0,0])
 rcases r3 with ⟨e_,b0⟩
 obtain ⟨r4,γ2,h4,h⟩:=zah h (gam [0,0,(γ1 2)])
 rcases r4 with ⟨t9,t10,b01,b1⟩ | ⟨t10,b01,b1,r3,r4,r5,r6,r7,r8,r9⟩
 cases h;refine zab rfl ?_;rotate_left
 cases h;refine zab rfl ?_;rotate_left
 obtain ⟨r3,γ1,h3,h⟩:=zah h (gam [0,0,0])
 rcases r3 with ⟨e_,b0⟩
 obtain ⟨r4,γ2,h4,h⟩:=zah h (gam [0,0,(γ1 2)])
 rcases r4 with ⟨t9,t10,b01,b1⟩ | ⟨t10,b01,b1,r3,r4,r5,r6,r7,r8,r9⟩
 cases h;refine zab rfl ?_;rotate_left
 cases h;refine zab rfl ?_;rotate_left
 all_goals (dsimp only [R3,zeD,zeF] at *;show zas IF_ (g27F zyj zyk) _ _=_;generalize zyj=c0,zyk=c1 at *;exact fin_)
def zoj (n:Node):Option (zoi):=
 bif zaV zat 24 [] n.pred then
  bif zaV zat 24 [] n.list then
   bif zaV zae 24 [] n.fingers then
    bif zaV zan 32 [] n.store then
     bif zaV zaX 56 [] n.pends then
      bif zaV eJob 128 [] n.jobs then
       bif zaV zal 64 [] n.results then
        some (n.me.id,n.me.addr,n.clock,n.joined,n.pred,n.list,n.fingers,n.store,n.pends,n.jobs,n.results,n.rid,n.jobID,n.nextBit)
       else
        none
      else
       none
     else
      none
    else
     none
   else
    none
  else
   none
 else
  none
theorem zAE {n r} (h:zoj n=some r):zcj n=some r:=by
 unfold zoj at h
 refine zau ?_
 obtain ⟨h1,h⟩:=zaH h
 obtain ⟨h2,h⟩:=zaH h
 obtain ⟨h3,h⟩:=zaH h
 obtain ⟨h4,h⟩:=zaH h
 obtain ⟨h5,h⟩:=zaH h
 obtain ⟨h6,h⟩:=zaH h
 obtain ⟨h7,h⟩:=zaH h
 cases h;refine zab rfl ?_;rotate_left
 all_goals (dsimp only [zbu] at *;show zas IF_ g14F _ _=_;exact fin_)
abbrev zkO:=(Int × Node × Node) ⊕ ((List Out) × Int × Node)
def zfu (n:Node) (γ:Nat → Nat):zkO → X × St
 | .inl (a0,a1,a2)=>(.ret,⟨bd 8 (.bptr 1 0 :: .sl 3 ((γ 3)) :: vI a0 :: bd 32 []),[.box 34 (zam a1),.box 34 (zam a2),.row 56 (γ 2) false (List.map eOut []),.row 56 (γ 3) false (List.map eOut [])]⟩)
 | .inr (b0,b1,b2)=>(.ret,⟨bd 8 (.bptr 1 0 :: .lit 56 false (List.map eOut b0) :: vI b1 :: bd 32 []),[.box 34 (zam (⟨n.me,n.clock,true,n.pred,n.list,n.fingers,n.store,n.pends,n.jobs,n.results,n.rid,n.jobID,n.nextBit⟩:Node)),.box 34 (zam b2),.row 56 (γ 2) false (List.map eOut [])]⟩)
instance {n}:InjS (zfu n):=⟨fun γ γ' x y h=>by
 rcases x with ⟨a0,a1,a2⟩ | ⟨b0,b1,b2⟩ <;> rcases y with ⟨a0',a1',a2'⟩ | ⟨b0',b1',b2'⟩ <;> simp only [zfu] at h <;> exact inj_⟩
def zft (n:Node) (kind:Int) (key:ByteArray) (val:ByteArray):Option (zkO):=asks (fun γ=>(lim F pr).seg [8,9,10] zym ⟨bd 1 (vI kind :: vT key :: vT val :: .bptr 0 0 :: bd 3 (.bptr 1 0 :: bd 34 [])),[.box 34 (zam n),.box 34 ([vU 0,vH 0,vI 0,vF false,.lit 0 true [],.lit 0 true [],.lit 0 true [],.lit 0 true [],.lit 0 true [],.lit 0 true [],.lit 0 true [],vW 0,vI 0,vI 0]),.row 56 (γ 2) false (List.map eOut [])]⟩) (zfu n)
abbrev zkM:=(Int × Node × Node) ⊕ ((List Out) × Int × Node)
def zfs (n:Node) (γ:Nat → Nat):zkM → X × St
 | .inl (a0,a1,a2)=>(.ret,⟨bd 8 (.bptr 1 0 :: .sl 3 ((γ 3)) :: vI a0 :: bd 32 []),[.box 34 (zam a1),.box 34 (zam a2),.row 56 (γ 2) false (List.map eOut []),.row 56 (γ 3) false (List.map eOut [])]⟩)
 | .inr (b0,b1,b2)=>(.ret,⟨bd 8 (.bptr 1 0 :: .lit 56 false (List.map eOut b0) :: vI b1 :: bd 32 []),[.box 34 (zam (⟨n.me,n.clock,true,n.pred,n.list,n.fingers,n.store,n.pends,n.jobs,n.results,n.rid,n.jobID,n.nextBit⟩:Node)),.box 34 (zam b2),.row 56 (γ 2) false (List.map eOut [])]⟩)
instance {n}:InjS (zfs n):=⟨fun γ γ' x y h=>by
 rcases x with ⟨a0,a1,a2⟩ | ⟨b0,b1,b2⟩ <;> rcases y with ⟨a0',a1',a2'⟩ | ⟨b0',b1',b2'⟩ <;> simp only [zfs] at h <;> exact inj_⟩
def zjW (n:Node) (kind:Int) (key:ByteArray) (val':ByteArray):Option (zkM):=asks (fun γ=>(lim F pr).seg [8,9,10] zyl ⟨bd 1 (vI kind :: vT key :: vT val' :: .bptr 0 0 :: bd 3 (.bptr 1 0 :: bd 34 [])),[.box 34 (zam n),.box 34 ([vU 0,vH 0,vI 0,vF false,.lit 0 true [],.lit 0 true [],.lit 0 true [],.lit 0 true [],.lit 0 true [],.lit 0 true [],.lit 0 true [],vW 0,vI 0,vI 0]),.row 56 (γ 2) false (List.map eOut [])]⟩) (zfs n)
def zia (n:Node) (kind:Int) (key:ByteArray) (val:ByteArray):Option (zkO):=
 (zkI key).bind fun res=>
 bif res then
  bif Ops.std.ieq kind 3 then zjW n kind key ⟨#[]⟩ else
  zjW n kind key val
 else
  some (.inl (7,n,n))
theorem zpt {n kind key val r} (h:zia n kind key val=some r):zft n kind key val=some r:=by
 unfold zia at h
 refine zao fun γ=>?_
 obtain ⟨res,h1,h⟩:=zac h
 rcases zaa h with ⟨h2,h⟩ | ⟨h2,h⟩
 rcases zaa h with ⟨h3,h⟩ | ⟨h3,h⟩
 obtain ⟨γ2,h4⟩:=zak h (gam [0,0,(γ 2)])
 rcases r with ⟨t10,b0,b1⟩ | ⟨t9,t10,b1⟩
 refine ⟨gam [0,0,(γ2 2),(γ2 3)],zaj ?_⟩;rotate_left
 refine ⟨gam [0,0,(γ2 2)],zaj ?_⟩;rotate_left
 obtain ⟨γ2,h4⟩:=zak h (gam [0,0,(γ 2)])
 rcases r with ⟨t10,b0,b1⟩ | ⟨t9,t10,b1⟩
 refine ⟨gam [0,0,(γ2 2),(γ2 3)],zaj ?_⟩;rotate_left
 refine ⟨gam [0,0,(γ2 2)],zaj ?_⟩;rotate_left
 cases h;refine ⟨gam [0,0,(γ 2),0],zaj ?_⟩;rotate_left
 all_goals (dsimp only [R1,zfs,zfu] at *;show Ifc.apart IF_ _ (zD6 zyl) _=_;generalize zyl=c0 at *;exact fin_)
def zfr (n:Node) (kind:Int) (key:ByteArray) (val':ByteArray):Option (zkM):=
 bif Ops.std.ilt 512 (Ops.std.slen val') then some (.inl (5,n,n)) else
 bif n.joined then
  (zso key).bind fun res=>
  (zmu (⟨n.me,n.clock,true,n.pred,n.list,n.fingers,n.store,n.pends,n.jobs,n.results,n.rid,n.jobID,n.nextBit⟩:Node) (⟨0,kind,0,key,val',res,(⟨0,0⟩:Peer),(⟨0,0⟩:Peer),false,0,0,0⟩:Job)).bind fun ⟨r0,r1,r2⟩=>
  some (.inr (r1,r2,r0))
 else
  some (.inl (17,(⟨n.me,n.clock,false,n.pred,n.list,n.fingers,n.store,n.pends,n.jobs,n.results,n.rid,n.jobID,n.nextBit⟩:Node),(⟨n.me,n.clock,false,n.pred,n.list,n.fingers,n.store,n.pends,n.jobs,n.results,n.rid,n.jobID,n.nextBit⟩:Node)))
theorem zkN {n kind key val' r} (h:zfr n kind key val'=some r):zjW n kind key val'=some r:=by
 unfold zfr at h
 refine zao fun γ=>?_
 rcases zaa h with ⟨h1,h⟩ | ⟨h1,h⟩
 cases h;refine ⟨gam [0,0,(γ 2),0],zaj ?_⟩;rotate_left
 rcases zaa h with ⟨h2,h⟩ | ⟨h2,h⟩
 obtain ⟨res,h3,h⟩:=zac h
 obtain ⟨r4,h4,h⟩:=zac h
 rcases r4 with ⟨r0,r1,r2⟩
 cases h;refine ⟨gam [0,0,(γ 2)],zaj ?_⟩;rotate_left
 cases h;refine ⟨gam [0,0,(γ 2),0],zaj ?_⟩;rotate_left
 all_goals (dsimp only [R1,R3,zfs] at *;show Ifc.apart IF_ _ zD5 _=_;(try dsimp only [zai,zat,zae,zan,zaX,eJob,zal,zaJ,eMsg,eOut,zbR,cJob,zam,cMsg,zaR,capp] at *);(try simp only [List.map_cons,List.map_nil] at *);(try generalize n.joined=q0 at *);exact fin_)
def zoG (n:Node) (kind:Int) (key:ByteArray) (val:ByteArray):Option ((Node × (List Out) × Int)):=
 bif Ops.std.ieq kind 2 then
  (zft n kind key val).bind fun r=>match r with
   | .inl (t10,b0,b1)=>
    some (b1,[],t10)
   | .inr (t9,t10,b1)=>
    some (b1,t9,t10)
 else
  bif Ops.std.ieq kind 3 then
   (zft n kind key val).bind fun r=>match r with
    | .inl (t10,b0,b1)=>
     some (b1,[],t10)
    | .inr (t9,t10,b1)=>
     some (b1,t9,t10)
  else
   some (n,[],1)
theorem zAV {n kind key val r} (h:zoG n kind key val=some r):zsC n kind key val=some r:=by
 unfold zoG at h
 refine zau ?_
 rcases zaa h with ⟨h1,h⟩ | ⟨h1,h⟩
 obtain ⟨r2,γ1,h2,h⟩:=zah h (gam [0,0,0])
 rcases r2 with ⟨t10,b0,b1⟩ | ⟨t9,t10,b1⟩
 cases h;refine zab rfl ?_;rotate_left
 cases h;refine zab rfl ?_;rotate_left
 rcases zaa h with ⟨h2,h⟩ | ⟨h2,h⟩
 obtain ⟨r3,γ1,h3,h⟩:=zah h (gam [0,0,0])
 rcases r3 with ⟨t10,b0,b1⟩ | ⟨t9,t10,b1⟩
 cases h;refine zab rfl ?_;rotate_left
 cases h;refine zab rfl ?_;rotate_left
 cases h;refine zab rfl ?_;rotate_left
 all_goals (dsimp only [R3,zfu] at *;show zas IF_ (g28F zym) _ _=_;generalize zym=c0 at *;exact fin_)
end Go.Ab.Tryz
