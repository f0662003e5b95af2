/- Our texts for this statement, merged: what its theorem leads to. -/
import Derived.Test.YtjmmobicnfojeaaGreatDoorQWg10
set_option linter.unusedVariables false
set_option linter.unusedSimpArgs false
noncomputable section
namespace Go.Ab.Tryz
open Go Go.Ab Go.Proofs
set_option maxRecDepth 10000
set_option maxHeartbeats 4000000
abbrev zjr:=(Bool × (List Entry) × (List Entry) × (List Finger) × (List Pair) × (List Pend) × (List Job) × (List Result))
def zd1 (n:Node) (id:Int) (m:Msg) (γ:Nat → Nat):zjr → X × St
 | (a0,a1,a2,a3,a4,a5,a6,a7)=>(.ret,⟨bd 8 (vF a0 :: bd 128 []),[.box 34 (zao n),.box 37 [vI m.kind,vW m.rid,vB m.code,vF m.has,vU m.id,vT m.key,vT m.val,vU m.peer.id,vH m.peer.addr,.lit 25 false (List.map zah m.peers),.lit 78 false (List.map zan m.pairs)],.row 81 (γ 2) true (List.map zai a1),.row 81 (γ 3) true (List.map zai a2),.row 84 (γ 4) true (List.map zae a3),.row 78 (γ 5) true (List.map zan a4),.row 88 (γ 6) true (List.map za4 a5),.row 67 (γ 7) true (List.map eJob a6),.row 60 (γ 8) true (List.map zaq a7)]⟩)
instance {n id m}:InjS (zd1 n id m):=⟨fun γ γ' x y h=>by
 rcases x with ⟨a0,a1,a2,a3,a4,a5,a6,a7⟩ <;> rcases y with ⟨a0',a1',a2',a3',a4',a5',a6',a7'⟩ <;> simp only [zd1] at h <;> exact inj_⟩
def zlk (n:Node) (id:Int) (m:Msg) (why:Int):Option (zjr):=asks (fun γ=>(lim F pr).seg [8] zy6 ⟨bd 1 (vI id :: bd 1 (vI why :: .bptr 0 0 :: bd 1 (.bptr 1 0 :: bd 130 []))),[.box 34 (zao n),.box 37 [vI m.kind,vW m.rid,vB m.code,vF m.has,vU m.id,vT m.key,vT m.val,vU m.peer.id,vH m.peer.addr,.lit 25 false (List.map zah m.peers),.lit 78 false (List.map zan m.pairs)]]⟩) (zd1 n id m)
abbrev zjp:=(Bool × (List Entry) × (List Entry) × (List Finger) × (List Pair) × (List Pend) × (List Job) × (List Result) × Int × Int × Int × Bool × Int × Int × Int × Node × Node × Node × Node × Node × Node × Node × Node)
def zd0 (n:Node) (id:Int) (m:Msg) (γ:Nat → Nat):zjp → X × St
 | (a0,a1,a2,a3,a4,a5,a6,a7,a8,a9,a10,a11,a12,a13,a14,a15,a16,a17,a18,a19,a20,a21,a22)=>(.ret,⟨bd 8 (vF a0 :: bd 128 []),[.box 34 (zao n),.box 37 [vI m.kind,vW m.rid,vB m.code,vF m.has,vU m.id,vT m.key,vT m.val,vU m.peer.id,vH m.peer.addr,.lit 25 false (List.map zah m.peers),.lit 78 false (List.map zan m.pairs)],.row 81 (γ 2) true (List.map zai a1),.row 81 (γ 3) true (List.map zai a2),.row 84 (γ 4) true (List.map zae a3),.row 78 (γ 5) true (List.map zan a4),.row 88 (γ 6) true (List.map za4 a5),.row 67 (γ 7) true (List.map eJob a6),.row 60 (γ 8) true (List.map zaq a7),.box 34 [vU a8,vH a9,vI a10,vF a11,.sl 2 ((γ 2)),.sl 3 ((γ 3)),.sl 4 ((γ 4)),.sl 5 ((γ 5)),.sl 6 ((γ 6)),.sl 7 ((γ 7)),.sl 8 ((γ 8)),vW a12,vI a13,vI a14],.box 34 (zao a15),.box 34 (zao a16),.box 34 (zao a17),.box 34 (zao a18),.box 34 (zao a19),.box 34 (zao a20),.box 34 (zao a21),.box 34 (zao a22)]⟩)
instance {n id m}:InjS (zd0 n id m):=⟨fun γ γ' x y h=>by
 rcases x with ⟨a0,a1,a2,a3,a4,a5,a6,a7,a8,a9,a10,a11,a12,a13,a14,a15,a16,a17,a18,a19,a20,a21,a22⟩ <;> rcases y with ⟨a0',a1',a2',a3',a4',a5',a6',a7',a8',a9',a10',a11',a12',a13',a14',a15',a16',a17',a18',a19',a20',a21',a22'⟩ <;> simp only [zd0] at h <;> exact inj_⟩
def zdL (n:Node) (id:Int) (m:Msg) (u:List Out) (v:List Out) (s:List Out) (t:List Out) (ok:Bool) (r2:List Entry) (r3:List Entry) (r4:List Finger) (r5:List Pair) (r6:List Pend) (r7:List Job) (r8:List Result) (zbA:Int) (zbg:Int) (zby:Int) (zbq:Bool) (zcj:Int) (zbz:Int) (zbh:Int) (b10:Node) (b11:Node) (b12:Node) (b13:Node) (b14:Node) (b15:Node) (b16:Node) (b17:Node):Option (zjp):=asks (fun γ=>(lim F pr).seg [8] zy5 ⟨bd 4 (.bptr 0 0 :: bd 4 (.bptr 9 0 :: bd 8 (.bptr 14 0 :: .lit 56 false (List.map eOut u) :: .bptr 15 0 :: .lit 56 false (List.map eOut v) :: .bptr 16 0 :: .lit 56 false (List.map eOut s) :: .bptr 17 0 :: .lit 56 false (List.map eOut t) :: vF ok :: bd 110 []))),[.box 34 (zao n),.box 37 [vI m.kind,vW m.rid,vB m.code,vF m.has,vU m.id,vT m.key,vT m.val,vU m.peer.id,vH m.peer.addr,.lit 25 false (List.map zah m.peers),.lit 78 false (List.map zan m.pairs)],.row 81 (γ 2) true (List.map zai r2),.row 81 (γ 3) true (List.map zai r3),.row 84 (γ 4) true (List.map zae r4),.row 78 (γ 5) true (List.map zan r5),.row 88 (γ 6) true (List.map za4 r6),.row 67 (γ 7) true (List.map eJob r7),.row 60 (γ 8) true (List.map zaq r8),.box 34 [vU zbA,vH zbg,vI zby,vF zbq,.sl 2 ((γ 2)),.sl 3 ((γ 3)),.sl 4 ((γ 4)),.sl 5 ((γ 5)),.sl 6 ((γ 6)),.sl 7 ((γ 7)),.sl 8 ((γ 8)),vW zcj,vI zbz,vI zbh],.box 34 (zao b10),.box 34 (zao b11),.box 34 (zao b12),.box 34 (zao b13),.box 34 (zao b14),.box 34 (zao b15),.box 34 (zao b16),.box 34 (zao b17)]⟩) (zd0 n id m)
def zjs (n:Node) (id:Int) (m:Msg) (why:Int):Option (zjr):=
 (zeY n).bind fun ⟨zaO,zaB,zaM,zaG,zaT,zaQ,zax,zaJ,zaF,zaL,zay,zaW,zaN,zaC⟩=>
 (ztY (⟨(⟨zaO,zaB⟩:Peer),zaM,zaG,zaT,zaQ,zax,zaJ,zaF,zaL,zay,zaW,zaN,zaC⟩:Node) id).bind fun ⟨r0,r1⟩=>
 (zvB n id).bind fun ⟨r01,r11⟩=>
 (zrU (⟨(⟨zaO,zaB⟩:Peer),zaM,zaG,zaT,zaQ,zax,zaJ,zaF,zaL,zay,zaW,zaN,zaC⟩:Node) id m).bind fun ⟨r02,r12⟩=>
 (ztw n id m).bind fun ⟨r03,r13⟩=>
 (ztX (⟨(⟨zaO,zaB⟩:Peer),zaM,zaG,zaT,zaQ,zax,zaJ,zaF,zaL,zay,zaW,zaN,zaC⟩:Node) id m).bind fun ⟨r04,r14⟩=>
 (zvA n id m).bind fun ⟨r05,r15⟩=>
 (zpV (⟨(⟨zaO,zaB⟩:Peer),zaM,zaG,zaT,zaQ,zax,zaJ,zaF,zaL,zay,zaW,zaN,zaC⟩:Node) id why).bind fun ⟨r06,r16⟩=>
 (zrJ n id why).bind fun ⟨r07,r17⟩=>
 (zir r0 r01).bind fun res=>
 bif res then
  (zkk r1 r11).bind fun res1=>
  bif res1 then
   (zir r02 r03).bind fun res2=>
   bif res2 then
    (zkk r12 r13).bind fun res3=>
    (zdL n id m r14 r15 r16 r17 res3 zaT zaQ zax zaJ zaF zaL zay zaO zaB zaM zaG zaW zaN zaC r0 r01 r02 r03 r04 r05 r06 r07).bind fun ⟨t8,r2,r3,r4,r5,r6,r7,r8,zbA,zbg,zby,zbq,zcj,zbz,zbh,b10,b11,b12,b13,b14,b15,b16,b17⟩=>
    some (t8,r2,r3,r4,r5,r6,r7,r8)
   else
    (zdL n id m r14 r15 r16 r17 false zaT zaQ zax zaJ zaF zaL zay zaO zaB zaM zaG zaW zaN zaC r0 r01 r02 r03 r04 r05 r06 r07).bind fun ⟨t8,r2,r3,r4,r5,r6,r7,r8,zbA,zbg,zby,zbq,zcj,zbz,zbh,b10,b11,b12,b13,b14,b15,b16,b17⟩=>
    some (t8,r2,r3,r4,r5,r6,r7,r8)
  else
   (zdL n id m r14 r15 r16 r17 false zaT zaQ zax zaJ zaF zaL zay zaO zaB zaM zaG zaW zaN zaC r0 r01 r02 r03 r04 r05 r06 r07).bind fun ⟨t8,r2,r3,r4,r5,r6,r7,r8,zbA,zbg,zby,zbq,zcj,zbz,zbh,b10,b11,b12,b13,b14,b15,b16,b17⟩=>
   some (t8,r2,r3,r4,r5,r6,r7,r8)
 else
  (zdL n id m r14 r15 r16 r17 false zaT zaQ zax zaJ zaF zaL zay zaO zaB zaM zaG zaW zaN zaC r0 r01 r02 r03 r04 r05 r06 r07).bind fun ⟨t8,r2,r3,r4,r5,r6,r7,r8,zbA,zbg,zby,zbq,zcj,zbz,zbh,b10,b11,b12,b13,b14,b15,b16,b17⟩=>
  some (t8,r2,r3,r4,r5,r6,r7,r8)
theorem zuS {n id m why r} (h:zjs n id m why=some r):zlk n id m why=some r:=by
 unfold zjs at h
 refine zap fun γ=>?_
 obtain ⟨r1,h1,h⟩:=zac h
 rcases r1 with ⟨zaO,zaB,zaM,zaG,zaT,zaQ,zax,zaJ,zaF,zaL,zay,zaW,zaN,zaC⟩
 obtain ⟨r2,h2,h⟩:=zac h
 rcases r2 with ⟨r0,r1⟩
 obtain ⟨r3,h3,h⟩:=zac h
 rcases r3 with ⟨r01,r11⟩
 obtain ⟨r4,h4,h⟩:=zac h
 rcases r4 with ⟨r02,r12⟩
 obtain ⟨r5,h5,h⟩:=zac h
 rcases r5 with ⟨r03,r13⟩
 obtain ⟨r6,h6,h⟩:=zac h
 rcases r6 with ⟨r04,r14⟩
 obtain ⟨r7,h7,h⟩:=zac h
 rcases r7 with ⟨r05,r15⟩
 obtain ⟨r8,h8,h⟩:=zac h
 rcases r8 with ⟨r06,r16⟩
 obtain ⟨r9,h9,h⟩:=zac h
 rcases r9 with ⟨r07,r17⟩
 obtain ⟨res,h10,h⟩:=zac h
 rcases zaa h with ⟨h11,h⟩ | ⟨h11,h⟩
 obtain ⟨res1,h12,h⟩:=zac h
 rcases zaa h with ⟨h13,h⟩ | ⟨h13,h⟩
 obtain ⟨res2,h14,h⟩:=zac h
 rcases zaa h with ⟨h15,h⟩ | ⟨h15,h⟩
 obtain ⟨res3,h16,h⟩:=zac h
 obtain ⟨r17,γ14,h17,h⟩:=zag h (gam [0,0,0,0,0,0,0,0,0])
 rcases r17 with ⟨t8,r2,r3,r4,r5,r6,r7,r8,zbA,zbg,zby,zbq,zcj,zbz,zbh,b10,b11,b12,b13,b14,b15,b16,b17⟩
 cases h;refine ⟨gam [0,0,(γ14 2),(γ14 3),(γ14 4),(γ14 5),(γ14 6),(γ14 7),(γ14 8)],zak ?_⟩;rotate_left
 obtain ⟨r16,γ13,h16,h⟩:=zag h (gam [0,0,0,0,0,0,0,0,0])
 rcases r16 with ⟨t8,r2,r3,r4,r5,r6,r7,r8,zbA,zbg,zby,zbq,zcj,zbz,zbh,b10,b11,b12,b13,b14,b15,b16,b17⟩
 cases h;refine ⟨gam [0,0,(γ13 2),(γ13 3),(γ13 4),(γ13 5),(γ13 6),(γ13 7),(γ13 8)],zak ?_⟩;rotate_left
 obtain ⟨r14,γ12,h14,h⟩:=zag h (gam [0,0,0,0,0,0,0,0,0])
 rcases r14 with ⟨t8,r2,r3,r4,r5,r6,r7,r8,zbA,zbg,zby,zbq,zcj,zbz,zbh,b10,b11,b12,b13,b14,b15,b16,b17⟩
 cases h;refine ⟨gam [0,0,(γ12 2),(γ12 3),(γ12 4),(γ12 5),(γ12 6),(γ12 7),(γ12 8)],zak ?_⟩;rotate_left
 obtain ⟨r12,γ11,h12,h⟩:=zag h (gam [0,0,0,0,0,0,0,0,0])
 rcases r12 with ⟨t8,r2,r3,r4,r5,r6,r7,r8,zbA,zbg,zby,zbq,zcj,zbz,zbh,b10,b11,b12,b13,b14,b15,b16,b17⟩
 cases h;refine ⟨gam [0,0,(γ11 2),(γ11 3),(γ11 4),(γ11 5),(γ11 6),(γ11 7),(γ11 8)],zak ?_⟩;rotate_left
 all_goals (dsimp only [R1,R2,zcm,zd0,zd1] at *;show Ifc.apart IF_ _ (zEN zy5) _=_;generalize zy5=c0 at *;exact fin_)
def zjq (n:Node) (id:Int) (m:Msg) (u:List Out) (v:List Out) (s:List Out) (t:List Out) (ok:Bool) (r2:List Entry) (r3:List Entry) (r4:List Finger) (r5:List Pair) (r6:List Pend) (r7:List Job) (r8:List Result) (zbA:Int) (zbg:Int) (zby:Int) (zbq:Bool) (zcj:Int) (zbz:Int) (zbh:Int) (b10:Node) (b11:Node) (b12:Node) (b13:Node) (b14:Node) (b15:Node) (b16:Node) (b17:Node):Option (zjp):=
 bif ok then
  (zir b14 b15).bind fun res=>
  bif res then
   (zkk u v).bind fun res1=>
   bif res1 then
    (zir b16 b17).bind fun res2=>
    bif res2 then
     (zkk s t).bind fun res3=>
     bif res3 then
      (zir (⟨(⟨zbA,zbg⟩:Peer),zby,zbq,r2,r3,r4,r5,r6,r7,r8,zcj,zbz,zbh⟩:Node) n).bind fun res4=>
      bif res4 then
       (zo3).bind fun res5=>
       some (res5,r2,r3,r4,r5,r6,r7,r8,zbA,zbg,zby,zbq,zcj,zbz,zbh,b10,b11,b12,b13,b14,b15,b16,b17)
      else
       some (false,r2,r3,r4,r5,r6,r7,r8,zbA,zbg,zby,zbq,zcj,zbz,zbh,b10,b11,b12,b13,b14,b15,b16,b17)
     else
      some (false,r2,r3,r4,r5,r6,r7,r8,zbA,zbg,zby,zbq,zcj,zbz,zbh,b10,b11,b12,b13,b14,b15,b16,b17)
    else
     some (false,r2,r3,r4,r5,r6,r7,r8,zbA,zbg,zby,zbq,zcj,zbz,zbh,b10,b11,b12,b13,b14,b15,b16,b17)
   else
    some (false,r2,r3,r4,r5,r6,r7,r8,zbA,zbg,zby,zbq,zcj,zbz,zbh,b10,b11,b12,b13,b14,b15,b16,b17)
  else
   some (false,r2,r3,r4,r5,r6,r7,r8,zbA,zbg,zby,zbq,zcj,zbz,zbh,b10,b11,b12,b13,b14,b15,b16,b17)
 else
  some (false,r2,r3,r4,r5,r6,r7,r8,zbA,zbg,zby,zbq,zcj,zbz,zbh,b10,b11,b12,b13,b14,b15,b16,b17)
theorem zuR {n id m u v s t ok r2 r3 r4 r5 r6 r7 r8 zbA zbg zby zbq zcj zbz zbh b10 b11 b12 b13 b14 b15 b16 b17 r} (h:zjq n id m u v s t ok r2 r3 r4 r5 r6 r7 r8 zbA zbg zby zbq zcj zbz zbh b10 b11 b12 b13 b14 b15 b16 b17=some r):zdL n id m u v s t ok r2 r3 r4 r5 r6 r7 r8 zbA zbg zby zbq zcj zbz zbh b10 b11 b12 b13 b14 b15 b16 b17=some r:=by
 unfold zjq at h
 refine zap fun γ=>?_
 rcases zaa h with ⟨h1,h⟩ | ⟨h1,h⟩
 obtain ⟨res,h2,h⟩:=zac h
 rcases zaa h with ⟨h3,h⟩ | ⟨h3,h⟩
 obtain ⟨res1,h4,h⟩:=zac h
 rcases zaa h with ⟨h5,h⟩ | ⟨h5,h⟩
 obtain ⟨res2,h6,h⟩:=zac h
 rcases zaa h with ⟨h7,h⟩ | ⟨h7,h⟩
 obtain ⟨res3,h8,h⟩:=zac h
 rcases zaa h with ⟨h9,h⟩ | ⟨h9,h⟩
 obtain ⟨res4,h10,h⟩:=zac h
 rcases zaa h with ⟨h11,h⟩ | ⟨h11,h⟩
 obtain ⟨res5,h12,h⟩:=zac h
 cases h;refine ⟨gam [0,0,(γ 2),(γ 3),(γ 4),(γ 5),(γ 6),(γ 7),(γ 8)],zak ?_⟩;rotate_left
 cases h;refine ⟨gam [0,0,(γ 2),(γ 3),(γ 4),(γ 5),(γ 6),(γ 7),(γ 8)],zak ?_⟩;rotate_left
 cases h;refine ⟨gam [0,0,(γ 2),(γ 3),(γ 4),(γ 5),(γ 6),(γ 7),(γ 8)],zak ?_⟩;rotate_left
 cases h;refine ⟨gam [0,0,(γ 2),(γ 3),(γ 4),(γ 5),(γ 6),(γ 7),(γ 8)],zak ?_⟩;rotate_left
 cases h;refine ⟨gam [0,0,(γ 2),(γ 3),(γ 4),(γ 5),(γ 6),(γ 7),(γ 8)],zak ?_⟩;rotate_left
 cases h;refine ⟨gam [0,0,(γ 2),(γ 3),(γ 4),(γ 5),(γ 6),(γ 7),(γ 8)],zak ?_⟩;rotate_left
 cases h;refine ⟨gam [0,0,(γ 2),(γ 3),(γ 4),(γ 5),(γ 6),(γ 7),(γ 8)],zak ?_⟩;rotate_left
 all_goals (dsimp only [R1,zd0] at *;show Ifc.apart IF_ _ zEM _=_;exact fin_)
def zl8 (n:Node) (id:Int) (m:Msg) (why:Int):Option (Bool):=
 (ztT n).bind fun res=>
 bif res then zo3 else
 (ztR m).bind fun res1=>
 bif res1 then zo3 else
 (zlk n id m why).bind fun ⟨t8,r2,r3,r4,r5,r6,r7,r8⟩=>
 some t8
theorem zxJ {n id m why r} (h:zl8 n id m why=some r):ztU n id m why=some r:=by
 unfold zl8 at h
 refine zas ?_
 obtain ⟨res,h1,h⟩:=zac h
 rcases zaa h with ⟨h2,h⟩ | ⟨h2,h⟩
 have h3:=ask_some h
 rcases r with res1
 refine zab rfl ?_;rotate_left
 obtain ⟨res1,h3,h⟩:=zac h
 rcases zaa h with ⟨h4,h⟩ | ⟨h4,h⟩
 have h5:=ask_some h
 rcases r with res2
 refine zab rfl ?_;rotate_left
 obtain ⟨r5,γ3,h5,h⟩:=zag h (gam [])
 rcases r5 with ⟨t8,r2,r3,r4,r5,r6,r7,r8⟩
 cases h;refine zab rfl ?_;rotate_left
 all_goals (dsimp only [R1,zd1] at *;show zar IF_ (g10F zy6) _ _=_;generalize zy6=c0 at *;exact fin_)
def zgr (n:Node) (γ:Nat → Nat):Bool → X × St
 | a0=>(.ret,⟨bd 2 (vF a0 :: bd 91 []),[.box 34 (zao n)]⟩)
instance {n}:InjS (zgr n):=⟨fun γ γ' x y h=>by
 rcases x with a0 <;> rcases y with a0' <;> simp only [zgr] at h <;> exact inj_⟩
def zod (n:Node):Option (Bool):=asks (fun γ=>(lim F pr).seg [2] zy7 ⟨bd 1 (.bptr 0 0 :: bd 92 []),[.box 34 (zao n)]⟩) (zgr n)
def zgp (n:Node) (γ:Nat → Nat):Unit ⊕ Unit → X × St
 | .inl ()=>(.ret,⟨bd 2 (vF true :: bd 91 []),[.box 34 (zao n)]⟩)
 | .inr ()=>(.brk 0,⟨bd 1 (.bptr 0 0 :: bd 92 []),[.box 34 (zao n)]⟩)
instance {n}:InjS (zgp n):=⟨fun γ γ' x y h=>by
 rcases x with _ | _ <;> rcases y with _ | _ <;> simp only [zgp] at h <;> exact inj_⟩
def ziD (n:Node) (i:Int):Option (Unit ⊕ Unit):=asks (fun γ=>(lim F pr).loop [3,1] 1 zt9 ⟨bd 1 (.bptr 0 0 :: bd 1 (vI i :: bd 90 [])),[.box 34 (zao n)]⟩) (zgp n)
def zgq (n:Node) (γ:Nat → Nat):Unit ⊕ Unit → X × St
 | .inl ()=>(.ret,⟨bd 2 (vF true :: bd 91 []),[.box 34 (zao n)]⟩)
 | .inr ()=>(.brk 2,⟨bd 94 [],[.box 34 (zao n)]⟩)
instance {n}:InjS (zgq n):=⟨fun γ γ' x y h=>by
 rcases x with _ | _ <;> rcases y with _ | _ <;> simp only [zgq] at h <;> exact inj_⟩
def ziE (n:Node) (i:Int):Option (Unit ⊕ Unit):=asks (fun γ=>(lim F pr).loop [1,4] 1 zua ⟨bd 1 (.bptr 0 0 :: bd 2 (vI i :: bd 89 [])),[.box 34 (zao n)]⟩) (zgq n)
def zl7 (n:Node):Option (Bool):=
 (ziD n 0).bind fun r=>match r with
  | .inl ()=>
   some true
  | .inr ()=>
   (ziE n 0).bind fun r=>match r with
    | .inl ()=>
     some true
    | .inr ()=>
     some false
theorem zxI {n r} (h:zl7 n=some r):zod n=some r:=by
 unfold zl7 at h
 refine zap fun γ=>?_
 obtain ⟨r1,γ1,h1,h⟩:=zag h (gam [])
 rcases r1 with _ | _
 cases h;refine ⟨gam [],zak ?_⟩;rotate_left
 obtain ⟨r2,γ2,h2,h⟩:=zag h (gam [])
 rcases r2 with _ | _
 cases h;refine ⟨gam [],zak ?_⟩;rotate_left
 cases h;refine ⟨gam [],zak ?_⟩;rotate_left
 all_goals (dsimp only [zgp,zgq,zgr] at *;show Ifc.apart IF_ _ (zEQ zt9 zua) _=_;generalize zt9=c0,zua=c1 at *;exact fin_)
def zjd (n:Node) (i:Int):Option (Unit ⊕ Unit):=
 bif Ops.std.ilt i (xlen eJob n.jobs) then
  (xget eJob n.jobs i).bind fun x=>
  bif Ops.std.ilt 300 (Ops.std.slen x.key) then some (.inl ()) else
  bif Ops.std.ilt 700 (Ops.std.slen x.val) then some (.inl ()) else
  ziD n (Ops.std.iadd .i64 i 1)
 else
  some (.inr ())
theorem zqG {n i r} (h:zjd n i=some r):ziD n i=some r:=by
 unfold zjd at h
 refine zap fun γ=>?_
 rcases zaa h with ⟨h1,h⟩ | ⟨h1,h⟩
 obtain ⟨x,h2,h⟩:=zac h
 rcases zaa h with ⟨h3,h⟩ | ⟨h3,h⟩
 cases h;refine ⟨gam [],zad ?_⟩;rotate_left
 rcases zaa h with ⟨h4,h⟩ | ⟨h4,h⟩
 cases h;refine ⟨gam [],zad ?_⟩;rotate_left
 replace h:=zal h (gam []);obtain ⟨γ',h0⟩:=h;refine ⟨γ',zad ?_⟩;rotate_left
 cases h;refine ⟨gam [],zad ?_⟩;rotate_left
 all_goals (dsimp only [zgp] at *;show zaR IF_ _ _ zt9 zEO _=_;generalize zt9=c0 at *;exact fin_)
def zje (n:Node) (i:Int):Option (Unit ⊕ Unit):=
 bif Ops.std.ilt i (xlen zaq n.results) then
  (xget zaq n.results i).bind fun x=>
  bif Ops.std.ilt 300 (Ops.std.slen x.key) then some (.inl ()) else
  bif Ops.std.ilt 700 (Ops.std.slen x.val) then some (.inl ()) else
  ziE n (Ops.std.iadd .i64 i 1)
 else
  some (.inr ())
theorem zqH {n i r} (h:zje n i=some r):ziE n i=some r:=by
 unfold zje at h
 refine zap fun γ=>?_
 rcases zaa h with ⟨h1,h⟩ | ⟨h1,h⟩
 obtain ⟨x,h2,h⟩:=zac h
 rcases zaa h with ⟨h3,h⟩ | ⟨h3,h⟩
 cases h;refine ⟨gam [],zad ?_⟩;rotate_left
 rcases zaa h with ⟨h4,h⟩ | ⟨h4,h⟩
 cases h;refine ⟨gam [],zad ?_⟩;rotate_left
 replace h:=zal h (gam []);obtain ⟨γ',h0⟩:=h;refine ⟨γ',zad ?_⟩;rotate_left
 cases h;refine ⟨gam [],zad ?_⟩;rotate_left
 all_goals (dsimp only [zgq] at *;show zaR IF_ _ _ zua zEP _=_;generalize zua=c0 at *;exact fin_)
def zmw (n:Node):Option (Bool):=
 bif Ops.std.ilt 5 (xlen zai n.pred) then some true else
 bif Ops.std.ilt 40 (xlen zai n.list) then some true else
 bif Ops.std.ilt 80 (xlen zae n.fingers) then some true else
 bif Ops.std.ilt 100 (xlen za4 n.pends) then some true else
 bif Ops.std.ilt 20 (xlen eJob n.jobs) then some true else
 bif Ops.std.ilt 40 (xlen zaq n.results) then some true else
 (ztS n.store).bind fun res=>
 bif res then some true else
 zod n
theorem zCe {n r} (h:zmw n=some r):ztT n=some r:=by
 unfold zmw at h
 refine zas ?_
 rcases zaa h with ⟨h1,h⟩ | ⟨h1,h⟩
 cases h;refine zab rfl ?_;rotate_left
 rcases zaa h with ⟨h2,h⟩ | ⟨h2,h⟩
 cases h;refine zab rfl ?_;rotate_left
 rcases zaa h with ⟨h3,h⟩ | ⟨h3,h⟩
 cases h;refine zab rfl ?_;rotate_left
 rcases zaa h with ⟨h4,h⟩ | ⟨h4,h⟩
 cases h;refine zab rfl ?_;rotate_left
 rcases zaa h with ⟨h5,h⟩ | ⟨h5,h⟩
 cases h;refine zab rfl ?_;rotate_left
 rcases zaa h with ⟨h6,h⟩ | ⟨h6,h⟩
 cases h;refine zab rfl ?_;rotate_left
 obtain ⟨res,h7,h⟩:=zac h
 rcases zaa h with ⟨h8,h⟩ | ⟨h8,h⟩
 cases h;refine zab rfl ?_;rotate_left
 obtain ⟨γ2,h9⟩:=zal h (gam [])
 rcases r with t2
 refine zab rfl ?_;rotate_left
 all_goals (dsimp only [R1,zgr] at *;show zar IF_ (g11F zy7) _ _=_;generalize zy7=c0 at *;exact fin_)
def zgm (m:Msg) (γ:Nat → Nat):Unit ⊕ Unit → X × St
 | .inl ()=>(.ret,⟨bd 2 (vF true :: bd 48 []),[.box 37 [vI m.kind,vW m.rid,vB m.code,vF m.has,vU m.id,vT m.key,vT m.val,vU m.peer.id,vH m.peer.addr,.lit 25 false (List.map zah m.peers),.lit 78 false (List.map zan m.pairs)]]⟩)
 | .inr ()=>(.brk 0,⟨bd 51 [],[.box 37 [vI m.kind,vW m.rid,vB m.code,vF m.has,vU m.id,vT m.key,vT m.val,vU m.peer.id,vH m.peer.addr,.lit 25 false (List.map zah m.peers),.lit 78 false (List.map zan m.pairs)]]⟩)
instance {m}:InjS (zgm m):=⟨fun γ γ' x y h=>by
 rcases x with _ | _ <;> rcases y with _ | _ <;> simp only [zgm] at h <;> exact inj_⟩
def ziC (m:Msg) (i:Int):Option (Unit ⊕ Unit):=asks (fun γ=>(lim F pr).loop [1,3] 1 zub ⟨bd 1 (.bptr 0 0 :: bd 1 (vI i :: bd 47 [])),[.box 37 [vI m.kind,vW m.rid,vB m.code,vF m.has,vU m.id,vT m.key,vT m.val,vU m.peer.id,vH m.peer.addr,.lit 25 false (List.map zah m.peers),.lit 78 false (List.map zan m.pairs)]]⟩) (zgm m)
def zjc (m:Msg) (i:Int):Option (Unit ⊕ Unit):=
 bif Ops.std.ilt i (xlen zan m.pairs) then
  (xget zan m.pairs i).bind fun x=>
  bif Ops.std.ilt 300 (Ops.std.slen x.key) then some (.inl ()) else
  bif Ops.std.ilt 700 (Ops.std.slen x.val) then some (.inl ()) else
  ziC m (Ops.std.iadd .i64 i 1)
 else
  some (.inr ())
theorem zqF {m i r} (h:zjc m i=some r):ziC m i=some r:=by
 unfold zjc at h
 refine zap fun γ=>?_
 rcases zaa h with ⟨h1,h⟩ | ⟨h1,h⟩
 obtain ⟨x,h2,h⟩:=zac h
 rcases zaa h with ⟨h3,h⟩ | ⟨h3,h⟩
 cases h;refine ⟨gam [],zad ?_⟩;rotate_left
 rcases zaa h with ⟨h4,h⟩ | ⟨h4,h⟩
 cases h;refine ⟨gam [],zad ?_⟩;rotate_left
 replace h:=zal h (gam []);obtain ⟨γ',h0⟩:=h;refine ⟨γ',zad ?_⟩;rotate_left
 cases h;refine ⟨gam [],zad ?_⟩;rotate_left
 all_goals (dsimp only [zgm] at *;show zaR IF_ _ _ zub zER _=_;generalize zub=c0 at *;exact fin_)
def zpS (m:Msg):Option (Bool):=
 bif Ops.std.ilt 300 (Ops.std.slen m.key) then some true else
 bif Ops.std.ilt 700 (Ops.std.slen m.val) then some true else
 bif Ops.std.ilt 40 (xlen zah m.peers) then some true else
 bif Ops.std.ilt 20 (xlen zan m.pairs) then some true else
 (ziC m 0).bind fun r=>match r with
  | .inl ()=>
   some true
  | .inr ()=>
   some false
theorem zCc {m r} (h:zpS m=some r):ztR m=some r:=by
 unfold zpS at h
 refine zas ?_
 rcases zaa h with ⟨h1,h⟩ | ⟨h1,h⟩
 cases h;refine zab rfl ?_;rotate_left
 rcases zaa h with ⟨h2,h⟩ | ⟨h2,h⟩
 cases h;refine zab rfl ?_;rotate_left
 rcases zaa h with ⟨h3,h⟩ | ⟨h3,h⟩
 cases h;refine zab rfl ?_;rotate_left
 rcases zaa h with ⟨h4,h⟩ | ⟨h4,h⟩
 cases h;refine zab rfl ?_;rotate_left
 obtain ⟨r5,γ1,h5,h⟩:=zag h (gam [])
 rcases r5 with _ | _
 cases h;refine zab rfl ?_;rotate_left
 cases h;refine zab rfl ?_;rotate_left
 all_goals (dsimp only [R1,zgm] at *;show zar IF_ (g12F zub) _ _=_;generalize zub=c0 at *;exact fin_)
def zpl (n:Node):Option (zpk):=
 bif zaK zai 24 [] n.pred then
  bif zaK zai 24 [] n.list then
   bif zaK zae 24 [] n.fingers then
    bif zaK zan 32 [] n.store then
     bif zaK za4 56 [] n.pends then
      bif zaK eJob 128 [] n.jobs then
       bif zaK zaq 64 [] n.results then
        some (n.me.id,n.me.addr,n.clock,n.joined,n.pred,n.list,n.fingers,n.store,n.pends,n.jobs,n.results,n.rid,n.jobID,n.nextBit)
       else
        none
      else
       none
     else
      none
    else
     none
   else
    none
  else
   none
 else
  none
theorem zBC {n r} (h:zpl n=some r):zeY n=some r:=by
 unfold zpl at h
 refine zas ?_
 obtain ⟨h1,h⟩:=zat h
 obtain ⟨h2,h⟩:=zat h
 obtain ⟨h3,h⟩:=zat h
 obtain ⟨h4,h⟩:=zat h
 obtain ⟨h5,h⟩:=zat h
 obtain ⟨h6,h⟩:=zat h
 obtain ⟨h7,h⟩:=zat h
 cases h;refine zab rfl ?_;rotate_left
 all_goals (dsimp only [zcm] at *;show zar IF_ g14F _ _=_;exact fin_)
def zpW (n:Node) (id:Int):Option ((Node × (List Out))):=
 (znw n id).bind fun ⟨r1,b0_node,b0_job,r2⟩=>
 bif r1 then
  (zda b0_node b0_job r2).bind fun ⟨b0_node1,za5,r11,r21⟩=>
  (zbe b0_node1 za5 r21).bind fun r0=>
  some (r0,r21)
 else
  (zaY b0_node b0_job r2).bind fun ⟨r0_0,r0_1,r0_2,r0_3,r0_4,r0_5,r0_7,r0_8,r0_9,r0_10,r0_11,r0_12,r0_13⟩=>
  some ((⟨(⟨r0_0,r0_1⟩:Peer),r0_2,r0_3,r0_4,r0_5,b0_node.fingers,r0_7,r0_8,r0_9,r0_10,r0_11,r0_12,r0_13⟩:Node),r2)
theorem zCg {n id r} (h:zpW n id=some r):ztY n id=some r:=by
 unfold zpW at h
 refine zas ?_
 obtain ⟨r1,γ1,h1,h⟩:=zag h (gam [])
 rcases r1 with ⟨r1,b0_node,b0_job,r2⟩
 rcases zaa h with ⟨h2,h⟩ | ⟨h2,h⟩
 obtain ⟨r3,γ2,h3,h⟩:=zag h (gam [0,(γ1 1),(γ1 2)])
 rcases r3 with ⟨b0_node1,za5,r11,r21⟩
 obtain ⟨r0,γ3,h4,h⟩:=zag h (gam [0,(γ2 2)])
 cases h;refine zab rfl ?_;rotate_left
 obtain ⟨r3,γ2,h3,h⟩:=zag h (gam [0,(γ1 1),(γ1 2)])
 rcases r3 with ⟨r0_0,r0_1,r0_2,r0_3,r0_4,r0_5,r0_7,r0_8,r0_9,r0_10,r0_11,r0_12,r0_13⟩
 cases h;refine zab rfl ?_;rotate_left
 all_goals (dsimp only [R2,zgC,zbG,zbB,zdb] at *;show zar IF_ g41F _ _=_;exact fin_)
def zrK (n:Node) (id:Int):Option ((Node × (List Out))):=
 (zkJ n id).bind fun res=>
 bif Ops.std.ilt res 0 then some (n,[]) else
 (xget eJob n.jobs res).bind fun x=>
 zkm n x
theorem zEx {n id r} (h:zrK n id=some r):zvB n id=some r:=by
 unfold zrK at h
 refine zas ?_
 obtain ⟨res,h1,h⟩:=zac h
 rcases zaa h with ⟨h2,h⟩ | ⟨h2,h⟩
 cases h;refine zab rfl ?_;rotate_left
 obtain ⟨x,h3,h⟩:=zac h
 have h4:=ask_some h
 rcases r with ⟨r0,r1⟩
 refine zab rfl ?_;rotate_left
 all_goals (dsimp only [R1,R2] at *;show zar IF_ g42F _ _=_;exact fin_)
abbrev zfe:=((List Out) × Bool × Node × Node × Job × (List Finger) × (List Out)) ⊕ (((List Out) × Bool × Node × Node × Job × (List Finger) × (List Out)) ⊕ ((List Out) × Bool × Node × Node × Job × (List Out)))
def zfg (n:Node) (id:Int) (m:Msg) (γ:Nat → Nat):zfe → X × St
 | .inl (a0,a1,a2,a3,a4,a5,a6)=>(.ret,⟨bd 6 (.bptr 2 0 :: .lit 56 false (List.map eOut a0) :: bd 67 []),[.box 34 (zao n),.box 37 [vI m.kind,vW m.rid,vB m.code,vF a1,vU m.id,vT m.key,vT m.val,vU m.peer.id,vH m.peer.addr,.lit 25 false (List.map zah m.peers),.lit 78 false (List.map zan m.pairs)],.box 34 (zao a2),.row 56 (γ 3) false (List.map eOut []),.box 135 (capp (zaw a3 (.sl 7 ((γ 7)))) (capp (cJob a4) ([.sl 6 ((γ 6))]))),.row 84 (γ 5) true (List.map zae a5),.row 56 (γ 6) true (List.map eOut a6),.row 84 (γ 7) true (List.map zae a3.fingers)]⟩)
 | .inr (.inl (b0,b1,b2,b3,b4,b5,b6))=>(.ret,⟨bd 6 (.bptr 2 0 :: .lit 56 false (List.map eOut b0) :: bd 67 []),[.box 34 (zao n),.box 37 [vI m.kind,vW m.rid,vB m.code,vF b1,vU m.id,vT m.key,vT m.val,vU m.peer.id,vH m.peer.addr,.lit 25 false (List.map zah m.peers),.lit 78 false (List.map zan m.pairs)],.box 34 (zao b2),.row 56 (γ 3) false (List.map eOut []),.box 135 (capp (zao b3) (capp (cJob b4) ([.sl 6 ((γ 6))]))),.row 84 (γ 5) true (List.map zae b5),.row 56 (γ 6) true (List.map eOut b6)]⟩)
 | .inr (.inr (c0,c1,c2,c3,c4,c5))=>(.ret,⟨bd 6 (.bptr 2 0 :: .lit 56 false (List.map eOut c0) :: bd 67 []),[.box 34 (zao n),.box 37 [vI m.kind,vW m.rid,vB m.code,vF c1,vU m.id,vT m.key,vT m.val,vU m.peer.id,vH m.peer.addr,.lit 25 false (List.map zah m.peers),.lit 78 false (List.map zan m.pairs)],.box 34 (zao c2),.row 56 (γ 3) false (List.map eOut []),.box 135 (capp (zaw c3 (.sl 5 ((γ 5)))) (capp (cJob c4) ([.sl 6 ((γ 6))]))),.row 84 (γ 5) true (List.map zae c3.fingers),.row 56 (γ 6) true (List.map eOut c5)]⟩)
instance {n id m}:InjS (zfg n id m):=⟨fun γ γ' x y h=>by
 rcases x with ⟨a0,a1,a2,a3,a4,a5,a6⟩ | ⟨b0,b1,b2,b3,b4,b5,b6⟩ | ⟨c0,c1,c2,c3,c4,c5⟩ <;> rcases y with ⟨a0',a1',a2',a3',a4',a5',a6'⟩ | ⟨b0',b1',b2',b3',b4',b5',b6'⟩ | ⟨c0',c1',c2',c3',c4',c5'⟩ <;> simp only [zfg] at h <;> exact inj_⟩
def znd (n:Node) (id:Int) (m:Msg) (b4_node:Node) (b4_job:Job) (r6:List Out):Option (zfe):=asks (fun γ=>(lim F pr).seg [6,7] zzc ⟨bd 5 (.bptr 1 0 :: .bptr 2 0 :: bd 1 (.bptr 4 0 :: bd 66 [])),[.box 34 (zao n),.box 37 [vI m.kind,vW m.rid,vB m.code,vF m.has,vU m.id,vT m.key,vT m.val,vU m.peer.id,vH m.peer.addr,.lit 25 false (List.map zah m.peers),.lit 78 false (List.map zan m.pairs)],.box 34 ([vU 0,vH 0,vI 0,vF false,.lit 0 true [],.lit 0 true [],.lit 0 true [],.lit 0 true [],.lit 0 true [],.lit 0 true [],.lit 0 true [],vW 0,vI 0,vI 0]),.row 56 (γ 3) false (List.map eOut []),.box 135 (capp (zaw b4_node (.sl 5 ((γ 5)))) (capp (cJob b4_job) ([.sl 6 ((γ 6))]))),.row 84 (γ 5) false (List.map zae b4_node.fingers),.row 56 (γ 6) false (List.map eOut r6)]⟩) (zfg n id m)
abbrev zfb:=(Bool × Node × Job × (List Finger) × (List Out)) ⊕ ((Bool × Node × Job × (List Out)) ⊕ (Node × Job × (List Finger) × (List Out)))
def zfd (n:Node) (id:Int) (m:Msg) (γ:Nat → Nat):zfb → X × St
 | .inl (a0,a1,a2,a3,a4)=>(.nor,⟨bd 6 (.bptr 2 0 :: bd 1 (.bptr 4 0 :: bd 66 [])),[.box 34 (zao n),.box 37 [vI m.kind,vW m.rid,vB m.code,vF a0,vU m.id,vT m.key,vT m.val,vU m.peer.id,vH m.peer.addr,.lit 25 false (List.map zah m.peers),.lit 78 false (List.map zan m.pairs)],.box 34 ([vU 0,vH 0,vI 0,vF false,.lit 0 true [],.lit 0 true [],.lit 0 true [],.lit 0 true [],.lit 0 true [],.lit 0 true [],.lit 0 true [],vW 0,vI 0,vI 0]),.row 56 (γ 3) false (List.map eOut []),.box 135 (capp (zao a1) (capp (cJob a2) ([.sl 6 ((γ 6))]))),.row 84 (γ 5) true (List.map zae a3),.row 56 (γ 6) false (List.map eOut a4)]⟩)
 | .inr (.inl (b0,b1,b2,b3))=>(.nor,⟨bd 6 (.bptr 2 0 :: bd 1 (.bptr 4 0 :: bd 66 [])),[.box 34 (zao n),.box 37 [vI m.kind,vW m.rid,vB m.code,vF b0,vU m.id,vT m.key,vT m.val,vU m.peer.id,vH m.peer.addr,.lit 25 false (List.map zah m.peers),.lit 78 false (List.map zan m.pairs)],.box 34 ([vU 0,vH 0,vI 0,vF false,.lit 0 true [],.lit 0 true [],.lit 0 true [],.lit 0 true [],.lit 0 true [],.lit 0 true [],.lit 0 true [],vW 0,vI 0,vI 0]),.row 56 (γ 3) false (List.map eOut []),.box 135 (capp (zaw b1 (.sl 5 ((γ 5)))) (capp (cJob b2) ([.sl 6 ((γ 6))]))),.row 84 (γ 5) false (List.map zae b1.fingers),.row 56 (γ 6) false (List.map eOut b3)]⟩)
 | .inr (.inr (c0,c1,c2,c3))=>(.nor,⟨bd 6 (.bptr 2 0 :: bd 1 (.bptr 4 0 :: bd 66 [])),[.box 34 (zao n),.box 37 [vI m.kind,vW m.rid,vB m.code,vF false,vU m.id,vT m.key,vT m.val,vU m.peer.id,vH m.peer.addr,.lit 25 false (List.map zah m.peers),.lit 78 false (List.map zan m.pairs)],.box 34 ([vU 0,vH 0,vI 0,vF false,.lit 0 true [],.lit 0 true [],.lit 0 true [],.lit 0 true [],.lit 0 true [],.lit 0 true [],.lit 0 true [],vW 0,vI 0,vI 0]),.row 56 (γ 3) false (List.map eOut []),.box 135 (capp (zaw c0 (.sl 7 ((γ 7)))) (capp (cJob c1) ([.sl 6 ((γ 6))]))),.row 84 (γ 5) true (List.map zae c2),.row 56 (γ 6) false (List.map eOut c3),.row 84 (γ 7) false (List.map zae c0.fingers)]⟩)
instance {n id m}:InjS (zfd n id m):=⟨fun γ γ' x y h=>by
 rcases x with ⟨a0,a1,a2,a3,a4⟩ | ⟨b0,b1,b2,b3⟩ | ⟨c0,c1,c2,c3⟩ <;> rcases y with ⟨a0',a1',a2',a3',a4'⟩ | ⟨b0',b1',b2',b3'⟩ | ⟨c0',c1',c2',c3'⟩ <;> simp only [zfd] at h <;> exact inj_⟩
def zhB (n:Node) (id:Int) (m:Msg) (t38:Bool) (zba:Bool) (b4_node:Node) (b4_job:Job) (r6:List Out):Option (zfb):=asks (fun γ=>(lim F pr).seg [8,6] zzb ⟨bd 5 (.bptr 1 0 :: .bptr 2 0 :: bd 1 (.bptr 4 0 :: bd 29 (vF t38 :: bd 36 []))),[.box 34 (zao n),.box 37 [vI m.kind,vW m.rid,vB m.code,vF zba,vU m.id,vT m.key,vT m.val,vU m.peer.id,vH m.peer.addr,.lit 25 false (List.map zah m.peers),.lit 78 false (List.map zan m.pairs)],.box 34 ([vU 0,vH 0,vI 0,vF false,.lit 0 true [],.lit 0 true [],.lit 0 true [],.lit 0 true [],.lit 0 true [],.lit 0 true [],.lit 0 true [],vW 0,vI 0,vI 0]),.row 56 (γ 3) false (List.map eOut []),.box 135 (capp (zaw b4_node (.sl 5 ((γ 5)))) (capp (cJob b4_job) ([.sl 6 ((γ 6))]))),.row 84 (γ 5) false (List.map zae b4_node.fingers),.row 56 (γ 6) false (List.map eOut r6)]⟩) (zfd n id m)
def zcT (n:Node) (id:Int) (m:Msg) (b4_node:Node) (b4_job:Job) (r6:List Out):Option (zfe):=
 bif Ops.std.ieq m.kind 12 then
  (zcE (Ops.std.iwrap .i64 m.code) b4_node b4_job r6).bind fun r=>match r with
   | .inl (b0_node,b0_job,r1)=>
    (zaY b0_node b0_job r6).bind fun ⟨r0_0,r0_1,r0_2,r0_3,r0_4,r0_5,r0_7,r0_8,r0_9,r0_10,r0_11,r0_12,r0_13⟩=>
    some (.inl (r6,m.has,(⟨(⟨r0_0,r0_1⟩:Peer),r0_2,r0_3,r0_4,r0_5,b0_node.fingers,r0_7,r0_8,r0_9,r0_10,r0_11,r0_12,r0_13⟩:Node),b0_node,b0_job,r1,r6))
   | .inr (b0_node,b0_job,r1,r2)=>
    (zbe b0_node b0_job r2).bind fun r0=>
    some (.inr (.inl (r2,m.has,r0,b0_node,b0_job,r1,r2)))
 else
  bif Ops.std.ieq m.kind 2 then
   bif m.has then
    (zhB n id m (Ops.std.ilt 0 (xlen zah m.peers)) true b4_node b4_job r6).bind fun r=>match r with
     | .inl (zba,b4_node1,zaA,r5,r61)=>
      (zbe b4_node1 zaA r61).bind fun r0=>
      some (.inr (.inl (r61,zba,r0,b4_node1,zaA,r5,r61)))
     | .inr (.inl (zba,b4_node1,zaA,r61))=>
      (zaY b4_node1 zaA r61).bind fun ⟨r0_0,r0_1,r0_2,r0_3,r0_4,r0_5,r0_7,r0_8,r0_9,r0_10,r0_11,r0_12,r0_13⟩=>
      some (.inr (.inr (r61,zba,(⟨(⟨r0_0,r0_1⟩:Peer),r0_2,r0_3,r0_4,r0_5,b4_node1.fingers,r0_7,r0_8,r0_9,r0_10,r0_11,r0_12,r0_13⟩:Node),b4_node1,zaA,r61)))
     | .inr (.inr (b4_node1,zaA,r5,r61))=>
      (zaY b4_node1 zaA r61).bind fun ⟨r0_0,r0_1,r0_2,r0_3,r0_4,r0_5,r0_7,r0_8,r0_9,r0_10,r0_11,r0_12,r0_13⟩=>
      some (.inl (r61,false,(⟨(⟨r0_0,r0_1⟩:Peer),r0_2,r0_3,r0_4,r0_5,b4_node1.fingers,r0_7,r0_8,r0_9,r0_10,r0_11,r0_12,r0_13⟩:Node),b4_node1,zaA,r5,r61))
   else
    (zhB n id m false false b4_node b4_job r6).bind fun r=>match r with
     | .inl (zba,b4_node1,zaA,r5,r61)=>
      (zbe b4_node1 zaA r61).bind fun r0=>
      some (.inr (.inl (r61,zba,r0,b4_node1,zaA,r5,r61)))
     | .inr (.inl (zba,b4_node1,zaA,r61))=>
      (zaY b4_node1 zaA r61).bind fun ⟨r0_0,r0_1,r0_2,r0_3,r0_4,r0_5,r0_7,r0_8,r0_9,r0_10,r0_11,r0_12,r0_13⟩=>
      some (.inr (.inr (r61,zba,(⟨(⟨r0_0,r0_1⟩:Peer),r0_2,r0_3,r0_4,r0_5,b4_node1.fingers,r0_7,r0_8,r0_9,r0_10,r0_11,r0_12,r0_13⟩:Node),b4_node1,zaA,r61)))
     | .inr (.inr (b4_node1,zaA,r5,r61))=>
      (zaY b4_node1 zaA r61).bind fun ⟨r0_0,r0_1,r0_2,r0_3,r0_4,r0_5,r0_7,r0_8,r0_9,r0_10,r0_11,r0_12,r0_13⟩=>
      some (.inl (r61,false,(⟨(⟨r0_0,r0_1⟩:Peer),r0_2,r0_3,r0_4,r0_5,b4_node1.fingers,r0_7,r0_8,r0_9,r0_10,r0_11,r0_12,r0_13⟩:Node),b4_node1,zaA,r5,r61))
  else
   (zhB n id m false m.has b4_node b4_job r6).bind fun r=>match r with
    | .inl (zba,b4_node1,zaA,r5,r61)=>
     (zbe b4_node1 zaA r61).bind fun r0=>
     some (.inr (.inl (r61,zba,r0,b4_node1,zaA,r5,r61)))
    | .inr (.inl (zba,b4_node1,zaA,r61))=>
     (zaY b4_node1 zaA r61).bind fun ⟨r0_0,r0_1,r0_2,r0_3,r0_4,r0_5,r0_7,r0_8,r0_9,r0_10,r0_11,r0_12,r0_13⟩=>
     some (.inr (.inr (r61,zba,(⟨(⟨r0_0,r0_1⟩:Peer),r0_2,r0_3,r0_4,r0_5,b4_node1.fingers,r0_7,r0_8,r0_9,r0_10,r0_11,r0_12,r0_13⟩:Node),b4_node1,zaA,r61)))
    | .inr (.inr (b4_node1,zaA,r5,r61))=>
     (zaY b4_node1 zaA r61).bind fun ⟨r0_0,r0_1,r0_2,r0_3,r0_4,r0_5,r0_7,r0_8,r0_9,r0_10,r0_11,r0_12,r0_13⟩=>
     some (.inl (r61,false,(⟨(⟨r0_0,r0_1⟩:Peer),r0_2,r0_3,r0_4,r0_5,b4_node1.fingers,r0_7,r0_8,r0_9,r0_10,r0_11,r0_12,r0_13⟩:Node),b4_node1,zaA,r5,r61))
theorem zff {n id m b4_node b4_job r6 r} (h:zcT n id m b4_node b4_job r6=some r):znd n id m b4_node b4_job r6=some r:=by
 unfold zcT at h
 refine zap fun γ=>?_
 rcases zaa h with ⟨h1,h⟩ | ⟨h1,h⟩
 obtain ⟨r2,γ1,h2,h⟩:=zag h (gam [0,(γ 5),(γ 6)])
 rcases r2 with ⟨b0_node,b0_job,r1⟩ | ⟨b0_node,b0_job,r1,r2⟩
 obtain ⟨r3,γ2,h3,h⟩:=zag h (gam [0,(γ1 3),(γ1 2)])
 rcases r3 with ⟨r0_0,r0_1,r0_2,r0_3,r0_4,r0_5,r0_7,r0_8,r0_9,r0_10,r0_11,r0_12,r0_13⟩
 cases h;refine ⟨gam [0,0,0,(γ 3),0,(γ1 1),(γ2 2),(γ2 1)],zak ?_⟩;rotate_left
 obtain ⟨r0,γ2,h3,h⟩:=zag h (gam [0,(γ1 2)])
 cases h;refine ⟨gam [0,0,0,(γ 3),0,(γ1 1),(γ2 1)],zak ?_⟩;rotate_left
 rcases zaa h with ⟨h2,h⟩ | ⟨h2,h⟩
 rcases zaa h with ⟨h3,h⟩ | ⟨h3,h⟩
 obtain ⟨r4,γ1,h4,h⟩:=zag h (gam [0,0,0,(γ 3),0,(γ 5),(γ 6)])
 rcases r4 with ⟨zba,b4_node1,zaA,r5,r61⟩ | ⟨zba,b4_node1,zaA,r61⟩ | ⟨b4_node1,zaA,r5,r61⟩
 obtain ⟨r0,γ2,h5,h⟩:=zag h (gam [0,(γ1 6)])
 cases h;refine ⟨gam [0,0,0,(γ1 3),0,(γ1 5),(γ2 1)],zak ?_⟩;rotate_left
 obtain ⟨r5,γ2,h5,h⟩:=zag h (gam [0,(γ1 5),(γ1 6)])
 rcases r5 with ⟨r0_0,r0_1,r0_2,r0_3,r0_4,r0_5,r0_7,r0_8,r0_9,r0_10,r0_11,r0_12,r0_13⟩
 cases h;refine ⟨gam [0,0,0,(γ1 3),0,(γ2 1),(γ2 2)],zak ?_⟩;rotate_left
 obtain ⟨r5,γ2,h5,h⟩:=zag h (gam [0,(γ1 7),(γ1 6)])
 rcases r5 with ⟨r0_0,r0_1,r0_2,r0_3,r0_4,r0_5,r0_7,r0_8,r0_9,r0_10,r0_11,r0_12,r0_13⟩
 cases h;refine ⟨gam [0,0,0,(γ1 3),0,(γ1 5),(γ2 2),(γ2 1)],zak ?_⟩;rotate_left
 obtain ⟨r4,γ1,h4,h⟩:=zag h (gam [0,0,0,(γ 3),0,(γ 5),(γ 6)])
 rcases r4 with ⟨zba,b4_node1,zaA,r5,r61⟩ | ⟨zba,b4_node1,zaA,r61⟩ | ⟨b4_node1,zaA,r5,r61⟩
 obtain ⟨r0,γ2,h5,h⟩:=zag h (gam [0,(γ1 6)])
 cases h;refine ⟨gam [0,0,0,(γ1 3),0,(γ1 5),(γ2 1)],zak ?_⟩;rotate_left
 obtain ⟨r5,γ2,h5,h⟩:=zag h (gam [0,(γ1 5),(γ1 6)])
 rcases r5 with ⟨r0_0,r0_1,r0_2,r0_3,r0_4,r0_5,r0_7,r0_8,r0_9,r0_10,r0_11,r0_12,r0_13⟩
 cases h;refine ⟨gam [0,0,0,(γ1 3),0,(γ2 1),(γ2 2)],zak ?_⟩;rotate_left
 obtain ⟨r5,γ2,h5,h⟩:=zag h (gam [0,(γ1 7),(γ1 6)])
 rcases r5 with ⟨r0_0,r0_1,r0_2,r0_3,r0_4,r0_5,r0_7,r0_8,r0_9,r0_10,r0_11,r0_12,r0_13⟩
 cases h;refine ⟨gam [0,0,0,(γ1 3),0,(γ1 5),(γ2 2),(γ2 1)],zak ?_⟩;rotate_left
 obtain ⟨r3,γ1,h3,h⟩:=zag h (gam [0,0,0,(γ 3),0,(γ 5),(γ 6)])
 rcases r3 with ⟨zba,b4_node1,zaA,r5,r61⟩ | ⟨zba,b4_node1,zaA,r61⟩ | ⟨b4_node1,zaA,r5,r61⟩
 obtain ⟨r0,γ2,h4,h⟩:=zag h (gam [0,(γ1 6)])
 cases h;refine ⟨gam [0,0,0,(γ1 3),0,(γ1 5),(γ2 1)],zak ?_⟩;rotate_left
 obtain ⟨r4,γ2,h4,h⟩:=zag h (gam [0,(γ1 5),(γ1 6)])
 rcases r4 with ⟨r0_0,r0_1,r0_2,r0_3,r0_4,r0_5,r0_7,r0_8,r0_9,r0_10,r0_11,r0_12,r0_13⟩
 cases h;refine ⟨gam [0,0,0,(γ1 3),0,(γ2 1),(γ2 2)],zak ?_⟩;rotate_left
 obtain ⟨r4,γ2,h4,h⟩:=zag h (gam [0,(γ1 7),(γ1 6)])
 rcases r4 with ⟨r0_0,r0_1,r0_2,r0_3,r0_4,r0_5,r0_7,r0_8,r0_9,r0_10,r0_11,r0_12,r0_13⟩
 cases h;refine ⟨gam [0,0,0,(γ1 3),0,(γ1 5),(γ2 2),(γ2 1)],zak ?_⟩;rotate_left
 all_goals (dsimp only [zfd,zfg,zbG,zbB,zbX] at *;show Ifc.apart IF_ _ (zE3 zzb) _=_;generalize zzb=c0 at *;(try dsimp only [zah,zai,zae,zan,za4,eJob,zaq,zaP,eMsg,eOut,zcn,cJob,zao,cMsg,zaw,capp] at *);(try simp only [List.map_cons,List.map_nil] at *);(try generalize m.has=q0 at *);exact fin_)
def zcS (n:Node) (id:Int) (m:Msg) (t38:Bool) (zba:Bool) (b4_node:Node) (b4_job:Job) (r6:List Out):Option (zfb):=
 bif t38 then
  (xget zah m.peers 0).bind fun x=>
  (zhC x b4_node b4_job r6).bind fun ⟨b0_node,b0_job,r1,r2⟩=>
  some (.inl (zba,b0_node,b0_job,r1,r2))
 else
  bif Ops.std.ieq m.kind 2 then
   bif zba then some (.inr (.inl (true,b4_node,b4_job,r6))) else
   (zgT m.peers b4_node b4_job r6).bind fun r=>match r with
    | .inl (b0_node,b0_job,r1)=>
     some (.inr (.inr (b0_node,b0_job,r1,r6)))
    | .inr (b0_node,b0_job,r1,r2)=>
     some (.inl (false,b0_node,b0_job,r1,r2))
  else
   some (.inr (.inl (zba,b4_node,b4_job,r6)))
theorem zfc {n id m t38 zba b4_node b4_job r6 r} (h:zcS n id m t38 zba b4_node b4_job r6=some r):zhB n id m t38 zba b4_node b4_job r6=some r:=by
 unfold zcS at h
 refine zap fun γ=>?_
 rcases zaa h with ⟨h1,h⟩ | ⟨h1,h⟩
 obtain ⟨x,h2,h⟩:=zac h
 obtain ⟨r3,γ1,h3,h⟩:=zag h (gam [0,(γ 5),(γ 6)])
 rcases r3 with ⟨b0_node,b0_job,r1,r2⟩
 cases h;refine ⟨gam [0,0,0,(γ 3),0,(γ1 1),(γ1 2)],zak ?_⟩;rotate_left
 rcases zaa h with ⟨h2,h⟩ | ⟨h2,h⟩
 rcases zaa h with ⟨h3,h⟩ | ⟨h3,h⟩
 cases h;refine ⟨gam [0,0,0,(γ 3),0,(γ 5),(γ 6)],zak ?_⟩;rotate_left
 obtain ⟨r4,γ1,h4,h⟩:=zag h (gam [0,(γ 5),(γ 6)])
 rcases r4 with ⟨b0_node,b0_job,r1⟩ | ⟨b0_node,b0_job,r1,r2⟩
 cases h;refine ⟨gam [0,0,0,(γ 3),0,(γ1 1),(γ1 2),(γ1 3)],zak ?_⟩;rotate_left
 cases h;refine ⟨gam [0,0,0,(γ 3),0,(γ1 1),(γ1 2)],zak ?_⟩;rotate_left
 cases h;refine ⟨gam [0,0,0,(γ 3),0,(γ 5),(γ 6)],zak ?_⟩;rotate_left
 all_goals (dsimp only [zfd,zdO,zdC] at *;show Ifc.apart IF_ _ zE2 _=_;exact fin_)
def zof (n:Node) (id:Int) (m:Msg):Option ((Node × (List Out))):=
 (znw n id).bind fun ⟨r1,b0_node,b0_job,r2⟩=>
 bif r1 then
  bif b0_job.doing then
   (zaY b0_node (⟨b0_job.id,b0_job.kind,b0_job.bit,b0_job.key,b0_job.val,b0_job.target,b0_job.via,b0_job.at_,true,b0_job.hops,b0_job.tries,b0_job.due⟩:Job) r2).bind fun ⟨r0_0,r0_1,r0_2,r0_3,r0_4,r0_5,r0_7,r0_8,r0_9,r0_10,r0_11,r0_12,r0_13⟩=>
   some ((⟨(⟨r0_0,r0_1⟩:Peer),r0_2,r0_3,r0_4,r0_5,b0_node.fingers,r0_7,r0_8,r0_9,r0_10,r0_11,r0_12,r0_13⟩:Node),r2)
  else
   (znd n id m b0_node (⟨b0_job.id,b0_job.kind,b0_job.bit,b0_job.key,b0_job.val,b0_job.target,b0_job.via,b0_job.at_,false,b0_job.hops,b0_job.tries,b0_job.due⟩:Job) r2).bind fun r=>match r with
    | .inl (t7,zba,b2,b4_node,b4_job,r5,r6)=>
     some (b2,t7)
    | .inr (.inl (t7,zba,b2,b4_node,b4_job,r5,r6))=>
     some (b2,t7)
    | .inr (.inr (t7,zba,b2,b4_node,b4_job,r6))=>
     some (b2,t7)
 else
  (zaY b0_node b0_job r2).bind fun ⟨r0_0,r0_1,r0_2,r0_3,r0_4,r0_5,r0_7,r0_8,r0_9,r0_10,r0_11,r0_12,r0_13⟩=>
  some ((⟨(⟨r0_0,r0_1⟩:Peer),r0_2,r0_3,r0_4,r0_5,b0_node.fingers,r0_7,r0_8,r0_9,r0_10,r0_11,r0_12,r0_13⟩:Node),r2)
theorem zBa {n id m r} (h:zof n id m=some r):zrU n id m=some r:=by
 unfold zof at h
 refine zas ?_
 obtain ⟨r1,γ1,h1,h⟩:=zag h (gam [])
 rcases r1 with ⟨r1,b0_node,b0_job,r2⟩
 rcases zaa h with ⟨h2,h⟩ | ⟨h2,h⟩
 rcases zaa h with ⟨h3,h⟩ | ⟨h3,h⟩
 obtain ⟨r4,γ2,h4,h⟩:=zag h (gam [0,(γ1 1),(γ1 2)])
 rcases r4 with ⟨r0_0,r0_1,r0_2,r0_3,r0_4,r0_5,r0_7,r0_8,r0_9,r0_10,r0_11,r0_12,r0_13⟩
 cases h;refine zab rfl ?_;rotate_left
 obtain ⟨r4,γ2,h4,h⟩:=zag h (gam [0,0,0,0,0,(γ1 1),(γ1 2)])
 rcases r4 with ⟨t7,zba,b2,b4_node,b4_job,r5,r6⟩ | ⟨t7,zba,b2,b4_node,b4_job,r5,r6⟩ | ⟨t7,zba,b2,b4_node,b4_job,r6⟩
 cases h;refine zab rfl ?_;rotate_left
 cases h;refine zab rfl ?_;rotate_left
 cases h;refine zab rfl ?_;rotate_left
 obtain ⟨r3,γ2,h3,h⟩:=zag h (gam [0,(γ1 1),(γ1 2)])
 rcases r3 with ⟨r0_0,r0_1,r0_2,r0_3,r0_4,r0_5,r0_7,r0_8,r0_9,r0_10,r0_11,r0_12,r0_13⟩
 cases h;refine zab rfl ?_;rotate_left
 all_goals (dsimp only [R2,zfg,zgC,zbB] at *;show zar IF_ (g43F zzc) _ _=_;generalize zzc=c0 at *;(try dsimp only [zah,zai,zae,zan,za4,eJob,zaq,zaP,eMsg,eOut,zcn,cJob,zao,cMsg,zaw,capp] at *);(try simp only [List.map_cons,List.map_nil] at *);(try generalize b0_job.doing=q0 at *);exact fin_)
abbrev zi6:=((List Out) × Bool × Node) ⊕ ((Bool × Job) ⊕ (Node × Job × Int × Int))
def zge (n:Node) (id:Int) (m:Msg) (γ:Nat → Nat):zi6 → X × St
 | .inl (a0,a1,a2)=>(.ret,⟨bd 6 (.bptr 2 0 :: .lit 56 false (List.map eOut a0) :: bd 121 []),[.box 34 (zao n),.box 37 [vI m.kind,vW m.rid,vB m.code,vF a1,vU m.id,vT m.key,vT m.val,vU m.peer.id,vH m.peer.addr,.lit 25 false (List.map zah m.peers),.lit 78 false (List.map zan m.pairs)],.box 34 (zao a2),.row 56 (γ 3) false (List.map eOut [])]⟩)
 | .inr (.inl (b0,b1))=>(.ret,⟨bd 6 (.bptr 2 0 :: .sl 5 ((γ 5)) :: bd 121 []),[.box 34 (zao n),.box 37 [vI m.kind,vW m.rid,vB m.code,vF b0,vU m.id,vT m.key,vT m.val,vU m.peer.id,vH m.peer.addr,.lit 25 false (List.map zah m.peers),.lit 78 false (List.map zan m.pairs)],.box 34 (zao n),.row 56 (γ 3) false (List.map eOut []),.box 67 (cJob b1),.row 56 (γ 5) false (List.map eOut [])]⟩)
 | .inr (.inr (c0,c1,c2,c3))=>(.ret,⟨bd 6 (.bptr 2 0 :: .sl 6 ((γ 6)) :: bd 121 []),[.box 34 (zao n),.box 37 [vI m.kind,vW m.rid,vB m.code,vF false,vU m.id,vT m.key,vT m.val,vU m.peer.id,vH m.peer.addr,.lit 25 false (List.map zah m.peers),.lit 78 false (List.map zan m.pairs)],.box 34 (zao c0),.row 56 (γ 3) false (List.map eOut []),.box 67 (cJob c1),.box 25 [vU c2,vH c3],.row 56 (γ 6) false (List.map eOut [])]⟩)
instance {n id m}:InjS (zge n id m):=⟨fun γ γ' x y h=>by
 rcases x with ⟨a0,a1,a2⟩ | ⟨b0,b1⟩ | ⟨c0,c1,c2,c3⟩ <;> rcases y with ⟨a0',a1',a2'⟩ | ⟨b0',b1'⟩ | ⟨c0',c1',c2',c3'⟩ <;> simp only [zge] at h <;> exact inj_⟩
def zn4 (n:Node) (id:Int) (m:Msg) (at_:Int):Option (zi6):=asks (fun γ=>(lim F pr).seg [6,7] zzf ⟨bd 3 (.bptr 0 0 :: bd 1 (.bptr 1 0 :: .bptr 2 0 :: bd 1 (vI at_ :: bd 120 []))),[.box 34 (zao n),.box 37 [vI m.kind,vW m.rid,vB m.code,vF m.has,vU m.id,vT m.key,vT m.val,vU m.peer.id,vH m.peer.addr,.lit 25 false (List.map zah m.peers),.lit 78 false (List.map zan m.pairs)],.box 34 ([vU 0,vH 0,vI 0,vF false,.lit 0 true [],.lit 0 true [],.lit 0 true [],.lit 0 true [],.lit 0 true [],.lit 0 true [],.lit 0 true [],vW 0,vI 0,vI 0]),.row 56 (γ 3) false (List.map eOut [])]⟩) (zge n id m)
abbrev zi2:=((List Out) × Node × Job) ⊕ ((Node × Job × Int × Int) ⊕ Job)
def zf9 (n:Node) (id:Int) (m:Msg) (γ:Nat → Nat):zi2 → X × St
 | .inl (a0,a1,a2)=>(.ret,⟨bd 6 (.bptr 2 0 :: .lit 56 false (List.map eOut a0) :: bd 121 []),[.box 34 (zao n),.box 37 [vI m.kind,vW m.rid,vB m.code,vF false,vU m.id,vT m.key,vT m.val,vU m.peer.id,vH m.peer.addr,.lit 25 false (List.map zah m.peers),.lit 78 false (List.map zan m.pairs)],.box 34 (zao a1),.row 56 (γ 3) false (List.map eOut []),.box 67 (cJob a2)]⟩)
 | .inr (.inl (b0,b1,b2,b3))=>(.ret,⟨bd 6 (.bptr 2 0 :: .sl 6 ((γ 6)) :: bd 121 []),[.box 34 (zao n),.box 37 [vI m.kind,vW m.rid,vB m.code,vF false,vU m.id,vT m.key,vT m.val,vU m.peer.id,vH m.peer.addr,.lit 25 false (List.map zah m.peers),.lit 78 false (List.map zan m.pairs)],.box 34 (zao b0),.row 56 (γ 3) false (List.map eOut []),.box 67 (cJob b1),.box 25 [vU b2,vH b3],.row 56 (γ 6) false (List.map eOut [])]⟩)
 | .inr (.inr c0)=>(.brk 0,⟨bd 3 (.bptr 0 0 :: bd 2 (.bptr 2 0 :: bd 2 (.bptr 4 0 :: bd 119 []))),[.box 34 (zao n),.box 37 [vI m.kind,vW m.rid,vB m.code,vF false,vU m.id,vT m.key,vT m.val,vU m.peer.id,vH m.peer.addr,.lit 25 false (List.map zah m.peers),.lit 78 false (List.map zan m.pairs)],.box 34 ([vU 0,vH 0,vI 0,vF false,.lit 0 true [],.lit 0 true [],.lit 0 true [],.lit 0 true [],.lit 0 true [],.lit 0 true [],.lit 0 true [],vW 0,vI 0,vI 0]),.row 56 (γ 3) false (List.map eOut []),.box 67 (cJob c0)]⟩)
instance {n id m}:InjS (zf9 n id m):=⟨fun γ γ' x y h=>by
 rcases x with ⟨a0,a1,a2⟩ | ⟨b0,b1,b2,b3⟩ | c0 <;> rcases y with ⟨a0',a1',a2'⟩ | ⟨b0',b1',b2',b3'⟩ | c0' <;> simp only [zf9] at h <;> exact inj_⟩
def zcQ (n:Node) (id:Int) (m:Msg) (i:Int) (b4:Job):Option (zi2):=asks (fun γ=>(lim F pr).loop [5,10,3,9,6] 5 zul ⟨bd 3 (.bptr 0 0 :: bd 1 (.bptr 1 0 :: .bptr 2 0 :: bd 2 (.bptr 4 0 :: vI i :: bd 118 []))),[.box 34 (zao n),.box 37 [vI m.kind,vW m.rid,vB m.code,vF false,vU m.id,vT m.key,vT m.val,vU m.peer.id,vH m.peer.addr,.lit 25 false (List.map zah m.peers),.lit 78 false (List.map zan m.pairs)],.box 34 ([vU 0,vH 0,vI 0,vF false,.lit 0 true [],.lit 0 true [],.lit 0 true [],.lit 0 true [],.lit 0 true [],.lit 0 true [],.lit 0 true [],vW 0,vI 0,vI 0]),.row 56 (γ 3) false (List.map eOut []),.box 67 (cJob b4)]⟩) (zf9 n id m)
abbrev zi4:=((List Out) × Node × Job × Int × Int) ⊕ (Node × Job × Int × Int)
def zgd (n:Node) (id:Int) (m:Msg) (γ:Nat → Nat):zi4 → X × St
 | .inl (a0,a1,a2,a3,a4)=>(.ret,⟨bd 6 (.bptr 2 0 :: .lit 56 false (List.map eOut a0) :: bd 121 []),[.box 34 (zao n),.box 37 [vI m.kind,vW m.rid,vB m.code,vF false,vU m.id,vT m.key,vT m.val,vU m.peer.id,vH m.peer.addr,.lit 25 false (List.map zah m.peers),.lit 78 false (List.map zan m.pairs)],.box 34 (zao a1),.row 56 (γ 3) false (List.map eOut []),.box 67 (cJob a2),.box 25 [vU a3,vH a4]]⟩)
 | .inr (b0,b1,b2,b3)=>(.ret,⟨bd 6 (.bptr 2 0 :: .sl 6 ((γ 6)) :: bd 121 []),[.box 34 (zao n),.box 37 [vI m.kind,vW m.rid,vB m.code,vF false,vU m.id,vT m.key,vT m.val,vU m.peer.id,vH m.peer.addr,.lit 25 false (List.map zah m.peers),.lit 78 false (List.map zan m.pairs)],.box 34 (zao b0),.row 56 (γ 3) false (List.map eOut []),.box 67 (cJob b1),.box 25 [vU b2,vH b3],.row 56 (γ 6) false (List.map eOut [])]⟩)
instance {n id m}:InjS (zgd n id m):=⟨fun γ γ' x y h=>by
 rcases x with ⟨a0,a1,a2,a3,a4⟩ | ⟨b0,b1,b2,b3⟩ <;> rcases y with ⟨a0',a1',a2',a3',a4'⟩ | ⟨b0',b1',b2',b3'⟩ <;> simp only [zgd] at h <;> exact inj_⟩
def zn3 (n:Node) (id:Int) (m:Msg) (b4:Job) (zbQ:Int) (zbi:Int):Option (zi4):=asks (fun γ=>(lim F pr).seg [10,5,3,9,6] zze ⟨bd 3 (.bptr 0 0 :: bd 2 (.bptr 2 0 :: bd 2 (.bptr 4 0 :: bd 1 (.bptr 5 0 :: bd 117 [])))),[.box 34 (zao n),.box 37 [vI m.kind,vW m.rid,vB m.code,vF false,vU m.id,vT m.key,vT m.val,vU m.peer.id,vH m.peer.addr,.lit 25 false (List.map zah m.peers),.lit 78 false (List.map zan m.pairs)],.box 34 ([vU 0,vH 0,vI 0,vF false,.lit 0 true [],.lit 0 true [],.lit 0 true [],.lit 0 true [],.lit 0 true [],.lit 0 true [],.lit 0 true [],vW 0,vI 0,vI 0]),.row 56 (γ 3) false (List.map eOut []),.box 67 (cJob b4),.box 25 [vU zbQ,vH zbi]]⟩) (zgd n id m)
abbrev zlY:=(Node × Job × Int × Int) ⊕ ((List Out) × Node × Job × Int × Int)
def zgc (n:Node) (id:Int) (m:Msg) (γ:Nat → Nat):zlY → X × St
 | .inl (a0,a1,a2,a3)=>(.ret,⟨bd 6 (.bptr 2 0 :: .sl 6 ((γ 6)) :: bd 121 []),[.box 34 (zao n),.box 37 [vI m.kind,vW m.rid,vB m.code,vF false,vU m.id,vT m.key,vT m.val,vU m.peer.id,vH m.peer.addr,.lit 25 false (List.map zah m.peers),.lit 78 false (List.map zan m.pairs)],.box 34 (zao a0),.row 56 (γ 3) false (List.map eOut []),.box 67 (cJob a1),.box 25 [vU a2,vH a3],.row 56 (γ 6) false (List.map eOut [])]⟩)
 | .inr (b0,b1,b2,b3,b4)=>(.ret,⟨bd 6 (.bptr 2 0 :: .lit 56 false (List.map eOut b0) :: bd 121 []),[.box 34 (zao n),.box 37 [vI m.kind,vW m.rid,vB m.code,vF false,vU m.id,vT m.key,vT m.val,vU m.peer.id,vH m.peer.addr,.lit 25 false (List.map zah m.peers),.lit 78 false (List.map zan m.pairs)],.box 34 (zao b1),.row 56 (γ 3) false (List.map eOut []),.box 67 (cJob b2),.box 25 [vU b3,vH b4]]⟩)
instance {n id m}:InjS (zgc n id m):=⟨fun γ γ' x y h=>by
 rcases x with ⟨a0,a1,a2,a3⟩ | ⟨b0,b1,b2,b3,b4⟩ <;> rcases y with ⟨a0',a1',a2',a3'⟩ | ⟨b0',b1',b2',b3',b4'⟩ <;> simp only [zgc] at h <;> exact inj_⟩
def zga (n:Node) (id:Int) (m:Msg) (b4:Job) (zbQ:Int) (zbi:Int):Option (zlY):=asks (fun γ=>(lim F pr).seg [10,5,3,9,6] zzd ⟨bd 3 (.bptr 0 0 :: bd 2 (.bptr 2 0 :: bd 2 (.bptr 4 0 :: bd 1 (.bptr 5 0 :: bd 117 [])))),[.box 34 (zao n),.box 37 [vI m.kind,vW m.rid,vB m.code,vF false,vU m.id,vT m.key,vT m.val,vU m.peer.id,vH m.peer.addr,.lit 25 false (List.map zah m.peers),.lit 78 false (List.map zan m.pairs)],.box 34 ([vU 0,vH 0,vI 0,vF false,.lit 0 true [],.lit 0 true [],.lit 0 true [],.lit 0 true [],.lit 0 true [],.lit 0 true [],.lit 0 true [],vW 0,vI 0,vI 0]),.row 56 (γ 3) false (List.map eOut []),.box 67 (cJob b4),.box 25 [vU zbQ,vH zbi]]⟩) (zgc n id m)
def zb3 (n:Node) (id:Int) (m:Msg) (at_:Int):Option (zi6):=
 (xget eJob n.jobs at_).bind fun x=>
 bif Ops.std.ieq m.kind 12 then
  (zkl n x (Ops.std.iwrap .i64 m.code)).bind fun ⟨r0,r1⟩=>
  some (.inl (r1,m.has,r0))
 else
  bif Ops.std.ieq m.kind 2 then
   bif m.has then
    bif Ops.std.ieq (xlen zah m.peers) 0 then some (.inr (.inl (true,x))) else
    (xget zah m.peers 0).bind fun x1=>
    (zuK n x x1).bind fun ⟨r0,r1⟩=>
    some (.inl (r1,true,r0))
   else
    (zcQ n id m 0 x).bind fun r=>match r with
     | .inl (t7,b2,b4)=>
      some (.inl (t7,false,b2))
     | .inr (.inl (b2,b4,zbQ,zbi))=>
      some (.inr (.inr (b2,b4,zbQ,zbi)))
     | .inr (.inr b4)=>
      (zkl n b4 15).bind fun ⟨r0,r1⟩=>
      some (.inl (r1,false,r0))
  else
   some (.inr (.inl (m.has,x)))
theorem zc7 {n id m at_ r} (h:zb3 n id m at_=some r):zn4 n id m at_=some r:=by
 unfold zb3 at h
 refine zap fun γ=>?_
 obtain ⟨x,h1,h⟩:=zac h
 rcases zaa h with ⟨h2,h⟩ | ⟨h2,h⟩
 obtain ⟨r3,h3,h⟩:=zac h
 rcases r3 with ⟨r0,r1⟩
 cases h;refine ⟨gam [0,0,0,(γ 3)],zak ?_⟩;rotate_left
 rcases zaa h with ⟨h3,h⟩ | ⟨h3,h⟩
 rcases zaa h with ⟨h4,h⟩ | ⟨h4,h⟩
 rcases zaa h with ⟨h5,h⟩ | ⟨h5,h⟩
 cases h;refine ⟨gam [0,0,0,(γ 3),0,0],zak ?_⟩;rotate_left
 obtain ⟨x1,h6,h⟩:=zac h
 obtain ⟨r7,h7,h⟩:=zac h
 rcases r7 with ⟨r0,r1⟩
 cases h;refine ⟨gam [0,0,0,(γ 3)],zak ?_⟩;rotate_left
 obtain ⟨r5,γ1,h5,h⟩:=zag h (gam [0,0,0,(γ 3)])
 rcases r5 with ⟨t7,b2,b4⟩ | ⟨b2,b4,zbQ,zbi⟩ | b4
 cases h;refine ⟨gam [0,0,0,(γ1 3)],zak ?_⟩;rotate_left
 cases h;refine ⟨gam [0,0,0,(γ1 3),0,0,(γ1 6)],zak ?_⟩;rotate_left
 obtain ⟨r6,h6,h⟩:=zac h
 rcases r6 with ⟨r0,r1⟩
 cases h;refine ⟨gam [0,0,0,(γ1 3)],zak ?_⟩;rotate_left
 cases h;refine ⟨gam [0,0,0,(γ 3),0,0],zak ?_⟩;rotate_left
 all_goals (dsimp only [R2,zf9,zge] at *;show Ifc.apart IF_ _ (zE7 zul) _=_;generalize zul=c0 at *;(try dsimp only [zah,zai,zae,zan,za4,eJob,zaq,zaP,eMsg,eOut,zcn,cJob,zao,cMsg,zaw,capp] at *);(try simp only [List.map_cons,List.map_nil] at *);(try generalize m.has=q0 at *);exact fin_)
def zeg (n:Node) (id:Int) (m:Msg) (i:Int) (b4:Job):Option (zi2):=
 bif Ops.std.ilt i (xlen zah m.peers) then
  (xget zah m.peers i).bind fun x=>
  bif Ops.std.ieq x.addr n.me.addr then zcQ n id m (Ops.std.iadd .i64 i 1) b4 else
  (zmg b4.at_.id x.id b4.target).bind fun res=>
  bif res then
   (zn3 n id m b4 x.id x.addr).bind fun r=>match r with
    | .inl (t7,b2,b41,zbQ,zbi)=>
     some (.inl (t7,b2,b41))
    | .inr (b2,b41,zbQ,zbi)=>
     some (.inr (.inl (b2,b41,zbQ,zbi)))
  else
   zcQ n id m (Ops.std.iadd .i64 i 1) b4
 else
  some (.inr (.inr b4))
theorem zi3 {n id m i b4 r} (h:zeg n id m i b4=some r):zcQ n id m i b4=some r:=by
 unfold zeg at h
 refine zap fun γ=>?_
 rcases zaa h with ⟨h1,h⟩ | ⟨h1,h⟩
 obtain ⟨x,h2,h⟩:=zac h
 rcases zaa h with ⟨h3,h⟩ | ⟨h3,h⟩
 replace h:=zal h (gam [0,0,0,(γ 3)]);obtain ⟨γ',h0⟩:=h;refine ⟨γ',zad ?_⟩;rotate_left
 obtain ⟨res,h4,h⟩:=zac h
 rcases zaa h with ⟨h5,h⟩ | ⟨h5,h⟩
 obtain ⟨r6,γ2,h6,h⟩:=zag h (gam [0,0,0,(γ 3)])
 rcases r6 with ⟨t7,b2,b41,zbQ,zbi⟩ | ⟨b2,b41,zbQ,zbi⟩
 cases h;refine ⟨gam [0,0,0,(γ2 3)],zad ?_⟩;rotate_left
 cases h;refine ⟨gam [0,0,0,(γ2 3),0,0,(γ2 6)],zad ?_⟩;rotate_left
 replace h:=zal h (gam [0,0,0,(γ 3)]);obtain ⟨γ',h0⟩:=h;refine ⟨γ',zad ?_⟩;rotate_left
 cases h;refine ⟨gam [0,0,0,(γ 3)],zad ?_⟩;rotate_left
 all_goals (dsimp only [R1,zf9,zgd] at *;show zaR IF_ _ _ zul (zE6 zze) _=_;generalize zul=c0,zze=c1 at *;exact fin_)
def zeh (n:Node) (id:Int) (m:Msg) (b4:Job) (zbQ:Int) (zbi:Int):Option (zi4):=
 bif Ops.std.ilt 63 b4.hops then
  bif Ops.std.ieq b4.kind 1 then
   (zkl n b4 19).bind fun ⟨r0,r1⟩=>
   some (.inl (r1,r0,b4,zbQ,zbi))
  else
   (zga n id m b4 zbQ zbi).bind fun r=>match r with
    | .inl (b2,b41,zh5,zen)=>
     some (.inr (b2,b41,zh5,zen))
    | .inr (t7,b2,b41,zh5,zen)=>
     some (.inl (t7,b2,b41,zh5,zen))
 else
  (zga n id m b4 zbQ zbi).bind fun r=>match r with
   | .inl (b2,b41,zh5,zen)=>
    some (.inr (b2,b41,zh5,zen))
   | .inr (t7,b2,b41,zh5,zen)=>
    some (.inl (t7,b2,b41,zh5,zen))
theorem zi5 {n id m b4 zbQ zbi r} (h:zeh n id m b4 zbQ zbi=some r):zn3 n id m b4 zbQ zbi=some r:=by
 unfold zeh at h
 refine zap fun γ=>?_
 rcases zaa h with ⟨h1,h⟩ | ⟨h1,h⟩
 rcases zaa h with ⟨h2,h⟩ | ⟨h2,h⟩
 obtain ⟨r3,h3,h⟩:=zac h
 rcases r3 with ⟨r0,r1⟩
 cases h;refine ⟨gam [0,0,0,(γ 3)],zak ?_⟩;rotate_left
 obtain ⟨r3,γ1,h3,h⟩:=zag h (gam [0,0,0,(γ 3)])
 rcases r3 with ⟨b2,b41,zh5,zen⟩ | ⟨t7,b2,b41,zh5,zen⟩
 cases h;refine ⟨gam [0,0,0,(γ1 3),0,0,(γ1 6)],zak ?_⟩;rotate_left
 cases h;refine ⟨gam [0,0,0,(γ1 3)],zak ?_⟩;rotate_left
 obtain ⟨r2,γ1,h2,h⟩:=zag h (gam [0,0,0,(γ 3)])
 rcases r2 with ⟨b2,b41,zh5,zen⟩ | ⟨t7,b2,b41,zh5,zen⟩
 cases h;refine ⟨gam [0,0,0,(γ1 3),0,0,(γ1 6)],zak ?_⟩;rotate_left
 cases h;refine ⟨gam [0,0,0,(γ1 3)],zak ?_⟩;rotate_left
 all_goals (dsimp only [R2,zgc,zgd] at *;show Ifc.apart IF_ _ (zE5 zzd) _=_;generalize zzd=c0 at *;exact fin_)
def zgb (n:Node) (id:Int) (m:Msg) (b4:Job) (zbQ:Int) (zbi:Int):Option (zlY):=
 bif Ops.std.ilt 63 b4.hops then
  (zbI n b4 false ⟨#[]⟩ 19).bind fun res=>
  some (.inl (res,b4,zbQ,zbi))
 else
  bif Ops.std.ilt b4.hops 0 then
   (ziw n (⟨b4.id,b4.kind,b4.bit,b4.key,b4.val,b4.target,b4.via,b4.at_,b4.doing,Ops.std.iadd .i64 0 1,b4.tries,b4.due⟩:Job) (⟨zbQ,zbi⟩:Peer)).bind fun ⟨r0,r1⟩=>
   some (.inr (r1,r0,(⟨b4.id,b4.kind,b4.bit,b4.key,b4.val,b4.target,b4.via,b4.at_,b4.doing,Ops.std.iadd .i64 0 1,b4.tries,b4.due⟩:Job),zbQ,zbi))
  else
   (ziw n (⟨b4.id,b4.kind,b4.bit,b4.key,b4.val,b4.target,b4.via,b4.at_,b4.doing,Ops.std.iadd .i64 b4.hops 1,b4.tries,b4.due⟩:Job) (⟨zbQ,zbi⟩:Peer)).bind fun ⟨r0,r1⟩=>
   some (.inr (r1,r0,(⟨b4.id,b4.kind,b4.bit,b4.key,b4.val,b4.target,b4.via,b4.at_,b4.doing,Ops.std.iadd .i64 b4.hops 1,b4.tries,b4.due⟩:Job),zbQ,zbi))
theorem zlZ {n id m b4 zbQ zbi r} (h:zgb n id m b4 zbQ zbi=some r):zga n id m b4 zbQ zbi=some r:=by
 unfold zgb at h
 refine zap fun γ=>?_
 rcases zaa h with ⟨h1,h⟩ | ⟨h1,h⟩
 obtain ⟨res,h2,h⟩:=zac h
 cases h;refine ⟨gam [0,0,0,(γ 3),0,0,0],zak ?_⟩;rotate_left
 rcases zaa h with ⟨h2,h⟩ | ⟨h2,h⟩
 obtain ⟨r3,h3,h⟩:=zac h
 rcases r3 with ⟨r0,r1⟩
 cases h;refine ⟨gam [0,0,0,(γ 3)],zak ?_⟩;rotate_left
 obtain ⟨r3,h3,h⟩:=zac h
 rcases r3 with ⟨r0,r1⟩
 cases h;refine ⟨gam [0,0,0,(γ 3)],zak ?_⟩;rotate_left
 all_goals (dsimp only [R1,R2,zgc] at *;show Ifc.apart IF_ _ zE4 _=_;exact fin_)
def zpG (n:Node) (id:Int) (m:Msg):Option ((Node × (List Out))):=
 (zkJ n id).bind fun res=>
 bif Ops.std.ilt res 0 then some (n,[]) else
 (xget eJob n.jobs res).bind fun x=>
 bif x.doing then some (n,[]) else
 (zn4 n id m res).bind fun r=>match r with
  | .inl (t7,zba,b2)=>
   some (b2,t7)
  | .inr (.inl (zba,b4))=>
   some (n,[])
  | .inr (.inr (b2,b4,zbQ,zbi))=>
   some (b2,[])
theorem zBW {n id m r} (h:zpG n id m=some r):ztw n id m=some r:=by
 unfold zpG at h
 refine zas ?_
 obtain ⟨res,h1,h⟩:=zac h
 rcases zaa h with ⟨h2,h⟩ | ⟨h2,h⟩
 cases h;refine zab rfl ?_;rotate_left
 obtain ⟨x,h3,h⟩:=zac h
 rcases zaa h with ⟨h4,h⟩ | ⟨h4,h⟩
 cases h;refine zab rfl ?_;rotate_left
 obtain ⟨r5,γ2,h5,h⟩:=zag h (gam [0,0,0,0])
 rcases r5 with ⟨t7,zba,b2⟩ | ⟨zba,b4⟩ | ⟨b2,b4,zbQ,zbi⟩
 cases h;refine zab rfl ?_;rotate_left
 cases h;refine zab rfl ?_;rotate_left
 cases h;refine zab rfl ?_;rotate_left
 all_goals (dsimp only [R1,R2,zge] at *;show zar IF_ (g44F zzf) _ _=_;generalize zzf=c0 at *;(try dsimp only [zah,zai,zae,zan,za4,eJob,zaq,zaP,eMsg,eOut,zcn,cJob,zao,cMsg,zaw,capp] at *);(try simp only [List.map_cons,List.map_nil] at *);(try generalize x.doing=q0 at *);exact fin_)
end Go.Ab.Tryz
