/- Our texts for this statement, merged: what its theorem leads to. -/
import Derived.Test.YtjmmobicnfojeaaGreatDoorQWg10
set_option linter.unusedVariables false
set_option linter.unusedSimpArgs false
noncomputable section
namespace Go.Ab.Tryz
open Go Go.Ab Go.Proofs
set_option maxRecDepth 10000
set_option maxHeartbeats 4000000
def zf6 (γ:Nat → Nat):Unit ⊕ Unit → X × St
 | .inl ()=>(.ret,⟨bd 4 (vF false :: bd 21 []),[]⟩)
 | .inr ()=>(.brk 0,⟨bd 26 [],[]⟩)
instance :InjS zf6:=⟨fun γ γ' x y h=>by
 rcases x with _ | _ <;> rcases y with _ | _ <;> simp only [zf6] at h <;> exact inj_⟩
def zk5 (a:List Pend) (b:List Pend) (i:Int):Option (Unit ⊕ Unit):=asks (fun γ=>(lim F pr).loop [0,1,5] 0 zup ⟨.lit 88 false (List.map za4 a) :: .lit 88 false (List.map za4 b) :: bd 3 (vI i :: bd 20 []),[]⟩) zf6
def zi0 (a:List Pend) (b:List Pend) (i:Int):Option (Unit ⊕ Unit):=
 bif Ops.std.ilt i (xlen za4 a) then
  (xget za4 a i).bind fun x=>
  (xget za4 b i).bind fun x1=>
  bif Ops.std.ieq x.rid x1.rid then
   bif Ops.std.ieq x.kind x1.kind then
    bif Ops.std.ieq x.why x1.why then
     bif Ops.std.ieq x.job x1.job then
      bif Ops.std.ieq x.to_.id x1.to_.id then
       bif Ops.std.ieq x.to_.addr x1.to_.addr then
        bif Ops.std.ieq x.due x1.due then zk5 a b (Ops.std.iadd .i64 i 1) else
        some (.inl ())
       else
        some (.inl ())
      else
       some (.inl ())
     else
      some (.inl ())
    else
     some (.inl ())
   else
    some (.inl ())
  else
   some (.inl ())
 else
  some (.inr ())
theorem zqz {a b i r} (h:zi0 a b i=some r):zk5 a b i=some r:=by
 unfold zi0 at h
 refine zap fun γ=>?_
 rcases zaa h with ⟨h1,h⟩ | ⟨h1,h⟩
 obtain ⟨x,h2,h⟩:=zac h
 obtain ⟨x1,h3,h⟩:=zac h
 rcases zaa h with ⟨h4,h⟩ | ⟨h4,h⟩
 rcases zaa h with ⟨h5,h⟩ | ⟨h5,h⟩
 rcases zaa h with ⟨h6,h⟩ | ⟨h6,h⟩
 rcases zaa h with ⟨h7,h⟩ | ⟨h7,h⟩
 rcases zaa h with ⟨h8,h⟩ | ⟨h8,h⟩
 rcases zaa h with ⟨h9,h⟩ | ⟨h9,h⟩
 rcases zaa h with ⟨h10,h⟩ | ⟨h10,h⟩
 replace h:=zal h (gam []);obtain ⟨γ',h0⟩:=h;refine ⟨γ',zad ?_⟩;rotate_left
 cases h;refine ⟨gam [],zad ?_⟩;rotate_left
 cases h;refine ⟨gam [],zad ?_⟩;rotate_left
 cases h;refine ⟨gam [],zad ?_⟩;rotate_left
 cases h;refine ⟨gam [],zad ?_⟩;rotate_left
 cases h;refine ⟨gam [],zad ?_⟩;rotate_left
 cases h;refine ⟨gam [],zad ?_⟩;rotate_left
 cases h;refine ⟨gam [],zad ?_⟩;rotate_left
 cases h;refine ⟨gam [],zad ?_⟩;rotate_left
 all_goals (dsimp only [zf6] at *;show zaR IF_ _ _ zup zFk _=_;generalize zup=c0 at *;exact fin_)
def zpy (a:List Pend) (b:List Pend):Option (Bool):=
 bif Ops.std.ieq (xlen za4 a) (xlen za4 b) then
  (zk5 a b 0).bind fun r=>match r with
   | .inl ()=>
    some false
   | .inr ()=>
    some true
 else
  some false
theorem zBR {a b r} (h:zpy a b=some r):ztt a b=some r:=by
 unfold zpy at h
 refine zas ?_
 rcases zaa h with ⟨h1,h⟩ | ⟨h1,h⟩
 obtain ⟨r2,γ1,h2,h⟩:=zag h (gam [])
 rcases r2 with _ | _
 cases h;refine zab rfl ?_;rotate_left
 cases h;refine zab rfl ?_;rotate_left
 cases h;refine zab rfl ?_;rotate_left
 all_goals (dsimp only [R1,zf6] at *;show zar IF_ (g72F zup) _ _=_;generalize zup=c0 at *;exact fin_)
def zhl (a:Node) (b:Node) (γ:Nat → Nat):Bool → X × St
 | a0=>(.ret,⟨bd 4 (vF a0 :: bd 54 []),[.box 34 (zao a),.box 34 (zao b)]⟩)
instance {a b}:InjS (zhl a b):=⟨fun γ γ' x y h=>by
 rcases x with a0 <;> rcases y with a0' <;> simp only [zhl] at h <;> exact inj_⟩
def zu2 (a:Node) (b:Node):Option (Bool):=asks (fun γ=>(lim F pr).seg [4] zzp ⟨bd 2 (.bptr 0 0 :: .bptr 1 0 :: bd 55 []),[.box 34 (zao a),.box 34 (zao b)]⟩) (zhl a b)
def zhj (a:Node) (b:Node) (γ:Nat → Nat):Unit ⊕ Unit → X × St
 | .inl ()=>(.ret,⟨bd 4 (vF false :: bd 54 []),[.box 34 (zao a),.box 34 (zao b)]⟩)
 | .inr ()=>(.brk 0,⟨bd 2 (.bptr 0 0 :: .bptr 1 0 :: bd 55 []),[.box 34 (zao a),.box 34 (zao b)]⟩)
instance {a b}:InjS (zhj a b):=⟨fun γ γ' x y h=>by
 rcases x with _ | _ <;> rcases y with _ | _ <;> simp only [zhj] at h <;> exact inj_⟩
def zmn (a:Node) (b:Node) (i:Int):Option (Unit ⊕ Unit):=asks (fun γ=>(lim F pr).loop [5,2,3] 2 zuq ⟨bd 2 (.bptr 0 0 :: .bptr 1 0 :: bd 1 (vI i :: bd 53 [])),[.box 34 (zao a),.box 34 (zao b)]⟩) (zhj a b)
def zhk (a:Node) (b:Node) (γ:Nat → Nat):Unit ⊕ Unit → X × St
 | .inl ()=>(.ret,⟨bd 4 (vF false :: bd 54 []),[.box 34 (zao a),.box 34 (zao b)]⟩)
 | .inr ()=>(.brk 2,⟨bd 59 [],[.box 34 (zao a),.box 34 (zao b)]⟩)
instance {a b}:InjS (zhk a b):=⟨fun γ γ' x y h=>by
 rcases x with _ | _ <;> rcases y with _ | _ <;> simp only [zhk] at h <;> exact inj_⟩
def zmo (a:Node) (b:Node) (i:Int):Option (Unit ⊕ Unit):=asks (fun γ=>(lim F pr).loop [2,3,6] 2 zur ⟨bd 2 (.bptr 0 0 :: .bptr 1 0 :: bd 2 (vI i :: bd 52 [])),[.box 34 (zao a),.box 34 (zao b)]⟩) (zhk a b)
def zm1 (a:Node) (b:Node):Option (Bool):=
 (zmn a b 0).bind fun r=>match r with
  | .inl ()=>
   some false
  | .inr ()=>
   (zmo a b 0).bind fun r=>match r with
    | .inl ()=>
     some false
    | .inr ()=>
     some true
theorem zyG {a b r} (h:zm1 a b=some r):zu2 a b=some r:=by
 unfold zm1 at h
 refine zap fun γ=>?_
 obtain ⟨r1,γ1,h1,h⟩:=zag h (gam [])
 rcases r1 with _ | _
 cases h;refine ⟨gam [],zak ?_⟩;rotate_left
 obtain ⟨r2,γ2,h2,h⟩:=zag h (gam [])
 rcases r2 with _ | _
 cases h;refine ⟨gam [],zak ?_⟩;rotate_left
 cases h;refine ⟨gam [],zak ?_⟩;rotate_left
 all_goals (dsimp only [zhj,zhk,zhl] at *;show Ifc.apart IF_ _ (zFn zuq zur) _=_;generalize zuq=c0,zur=c1 at *;exact fin_)
def zj0 (a:Node) (b:Node) (i:Int):Option (Unit ⊕ Unit):=
 bif Ops.std.ilt i (xlen eJob a.jobs) then
  (xget eJob a.jobs i).bind fun x=>
  (xget eJob b.jobs i).bind fun x1=>
  bif Ops.std.ieq x.id x1.id then
   bif Ops.std.ieq x.kind x1.kind then
    bif Ops.std.ieq x.bit x1.bit then
     bif Ops.std.seq x.key x1.key then
      bif Ops.std.seq x.val x1.val then
       bif Ops.std.ieq x.target x1.target then
        bif Ops.std.ieq x.via.id x1.via.id then
         bif Ops.std.ieq x.via.addr x1.via.addr then
          bif Ops.std.ieq x.at_.id x1.at_.id then
           bif Ops.std.ieq x.at_.addr x1.at_.addr then
            bif Ops.std.beq x.doing x1.doing then
             bif Ops.std.ieq x.hops x1.hops then
              bif Ops.std.ieq x.tries x1.tries then
               bif Ops.std.ieq x.due x1.due then zmn a b (Ops.std.iadd .i64 i 1) else
               some (.inl ())
              else
               some (.inl ())
             else
              some (.inl ())
            else
             some (.inl ())
           else
            some (.inl ())
          else
           some (.inl ())
         else
          some (.inl ())
        else
         some (.inl ())
       else
        some (.inl ())
      else
       some (.inl ())
     else
      some (.inl ())
    else
     some (.inl ())
   else
    some (.inl ())
  else
   some (.inl ())
 else
  some (.inr ())
theorem zsh {a b i r} (h:zj0 a b i=some r):zmn a b i=some r:=by
 unfold zj0 at h
 refine zap fun γ=>?_
 rcases zaa h with ⟨h1,h⟩ | ⟨h1,h⟩
 obtain ⟨x,h2,h⟩:=zac h
 obtain ⟨x1,h3,h⟩:=zac h
 rcases zaa h with ⟨h4,h⟩ | ⟨h4,h⟩
 rcases zaa h with ⟨h5,h⟩ | ⟨h5,h⟩
 rcases zaa h with ⟨h6,h⟩ | ⟨h6,h⟩
 rcases zaa h with ⟨h7,h⟩ | ⟨h7,h⟩
 rcases zaa h with ⟨h8,h⟩ | ⟨h8,h⟩
 rcases zaa h with ⟨h9,h⟩ | ⟨h9,h⟩
 rcases zaa h with ⟨h10,h⟩ | ⟨h10,h⟩
 rcases zaa h with ⟨h11,h⟩ | ⟨h11,h⟩
 rcases zaa h with ⟨h12,h⟩ | ⟨h12,h⟩
 rcases zaa h with ⟨h13,h⟩ | ⟨h13,h⟩
 rcases zaa h with ⟨h14,h⟩ | ⟨h14,h⟩
 rcases zaa h with ⟨h15,h⟩ | ⟨h15,h⟩
 rcases zaa h with ⟨h16,h⟩ | ⟨h16,h⟩
 rcases zaa h with ⟨h17,h⟩ | ⟨h17,h⟩
 replace h:=zal h (gam []);obtain ⟨γ',h0⟩:=h;refine ⟨γ',zad ?_⟩;rotate_left
 cases h;refine ⟨gam [],zad ?_⟩;rotate_left
 cases h;refine ⟨gam [],zad ?_⟩;rotate_left
 cases h;refine ⟨gam [],zad ?_⟩;rotate_left
 cases h;refine ⟨gam [],zad ?_⟩;rotate_left
 cases h;refine ⟨gam [],zad ?_⟩;rotate_left
 cases h;refine ⟨gam [],zad ?_⟩;rotate_left
 cases h;refine ⟨gam [],zad ?_⟩;rotate_left
 cases h;refine ⟨gam [],zad ?_⟩;rotate_left
 cases h;refine ⟨gam [],zad ?_⟩;rotate_left
 cases h;refine ⟨gam [],zad ?_⟩;rotate_left
 cases h;refine ⟨gam [],zad ?_⟩;rotate_left
 cases h;refine ⟨gam [],zad ?_⟩;rotate_left
 cases h;refine ⟨gam [],zad ?_⟩;rotate_left
 cases h;refine ⟨gam [],zad ?_⟩;rotate_left
 cases h;refine ⟨gam [],zad ?_⟩;rotate_left
 all_goals (dsimp only [zhj] at *;show zaR IF_ _ _ zuq zFl _=_;generalize zuq=c0 at *;exact fin_)
def zj1 (a:Node) (b:Node) (i:Int):Option (Unit ⊕ Unit):=
 bif Ops.std.ilt i (xlen zaq a.results) then
  (xget zaq a.results i).bind fun x=>
  (xget zaq b.results i).bind fun x1=>
  bif Ops.std.ieq x.job x1.job then
   bif Ops.std.ieq x.kind x1.kind then
    bif Ops.std.seq x.key x1.key then
     bif Ops.std.seq x.val x1.val then
      bif Ops.std.beq x.has x1.has then
       bif Ops.std.ieq x.err x1.err then zmo a b (Ops.std.iadd .i64 i 1) else
       some (.inl ())
      else
       some (.inl ())
     else
      some (.inl ())
    else
     some (.inl ())
   else
    some (.inl ())
  else
   some (.inl ())
 else
  some (.inr ())
theorem zsi {a b i r} (h:zj1 a b i=some r):zmo a b i=some r:=by
 unfold zj1 at h
 refine zap fun γ=>?_
 rcases zaa h with ⟨h1,h⟩ | ⟨h1,h⟩
 obtain ⟨x,h2,h⟩:=zac h
 obtain ⟨x1,h3,h⟩:=zac h
 rcases zaa h with ⟨h4,h⟩ | ⟨h4,h⟩
 rcases zaa h with ⟨h5,h⟩ | ⟨h5,h⟩
 rcases zaa h with ⟨h6,h⟩ | ⟨h6,h⟩
 rcases zaa h with ⟨h7,h⟩ | ⟨h7,h⟩
 rcases zaa h with ⟨h8,h⟩ | ⟨h8,h⟩
 rcases zaa h with ⟨h9,h⟩ | ⟨h9,h⟩
 replace h:=zal h (gam []);obtain ⟨γ',h0⟩:=h;refine ⟨γ',zad ?_⟩;rotate_left
 cases h;refine ⟨gam [],zad ?_⟩;rotate_left
 cases h;refine ⟨gam [],zad ?_⟩;rotate_left
 cases h;refine ⟨gam [],zad ?_⟩;rotate_left
 cases h;refine ⟨gam [],zad ?_⟩;rotate_left
 cases h;refine ⟨gam [],zad ?_⟩;rotate_left
 cases h;refine ⟨gam [],zad ?_⟩;rotate_left
 cases h;refine ⟨gam [],zad ?_⟩;rotate_left
 all_goals (dsimp only [zhk] at *;show zaR IF_ _ _ zur zFm _=_;generalize zur=c0 at *;exact fin_)
def zrB (a:Node) (b:Node):Option (Bool):=
 bif Ops.std.ieq (xlen eJob a.jobs) (xlen eJob b.jobs) then
  bif Ops.std.ieq (xlen zaq a.results) (xlen zaq b.results) then zu2 a b else
  some false
 else
  some false
theorem zEq {a b r} (h:zrB a b=some r):zvv a b=some r:=by
 unfold zrB at h
 refine zas ?_
 rcases zaa h with ⟨h1,h⟩ | ⟨h1,h⟩
 rcases zaa h with ⟨h2,h⟩ | ⟨h2,h⟩
 obtain ⟨γ1,h3⟩:=zal h (gam [])
 rcases r with t4
 refine zab rfl ?_;rotate_left
 cases h;refine zab rfl ?_;rotate_left
 cases h;refine zab rfl ?_;rotate_left
 all_goals (dsimp only [R1,zhl] at *;show zar IF_ (g73F zzp) _ _=_;generalize zzp=c0 at *;exact fin_)
def zrp (a:Msg) (b:Msg):Option (Bool):=
 bif Ops.std.ieq a.kind b.kind then
  bif Ops.std.ieq a.rid b.rid then
   bif Ops.std.ieq a.code b.code then
    bif Ops.std.beq a.has b.has then
     bif Ops.std.ieq a.id b.id then
      bif Ops.std.seq a.key b.key then
       bif Ops.std.seq a.val b.val then
        bif Ops.std.ieq a.peer.id b.peer.id then
         bif Ops.std.ieq a.peer.addr b.peer.addr then
          (zoO a.peers b.peers).bind fun res=>
          bif res then zoN a.pairs b.pairs else
          some false
         else
          some false
        else
         some false
       else
        some false
      else
       some false
     else
      some false
    else
     some false
   else
    some false
  else
   some false
 else
  some false
theorem zEd {a b r} (h:zrp a b=some r):zvr a b=some r:=by
 unfold zrp at h
 refine zas ?_
 rcases zaa h with ⟨h1,h⟩ | ⟨h1,h⟩
 rcases zaa h with ⟨h2,h⟩ | ⟨h2,h⟩
 rcases zaa h with ⟨h3,h⟩ | ⟨h3,h⟩
 rcases zaa h with ⟨h4,h⟩ | ⟨h4,h⟩
 rcases zaa h with ⟨h5,h⟩ | ⟨h5,h⟩
 rcases zaa h with ⟨h6,h⟩ | ⟨h6,h⟩
 rcases zaa h with ⟨h7,h⟩ | ⟨h7,h⟩
 rcases zaa h with ⟨h8,h⟩ | ⟨h8,h⟩
 rcases zaa h with ⟨h9,h⟩ | ⟨h9,h⟩
 obtain ⟨res,h10,h⟩:=zac h
 rcases zaa h with ⟨h11,h⟩ | ⟨h11,h⟩
 have h12:=ask_some h
 rcases r with res1
 refine zab rfl ?_;rotate_left
 cases h;refine zab rfl ?_;rotate_left
 cases h;refine zab rfl ?_;rotate_left
 cases h;refine zab rfl ?_;rotate_left
 cases h;refine zab rfl ?_;rotate_left
 cases h;refine zab rfl ?_;rotate_left
 cases h;refine zab rfl ?_;rotate_left
 cases h;refine zab rfl ?_;rotate_left
 cases h;refine zab rfl ?_;rotate_left
 cases h;refine zab rfl ?_;rotate_left
 cases h;refine zab rfl ?_;rotate_left
 all_goals (dsimp only [R1] at *;show zar IF_ g74F _ _=_;exact fin_)
def zs6 (s:ByteArray):Option (Bool):=
 bif Ops.std.seq s ⟨#[]⟩ then some false else
 bif Ops.std.ile (Ops.std.slen s) 96 then
  (ztO s).bind fun res=>
  bif res then
   (ztN s).bind fun res1=>
   some (Ops.std.ile res1 32)
  else
   some false
 else
  some false
theorem zF2 {s r} (h:zs6 s=some r):zxk s=some r:=by
 unfold zs6 at h
 refine zas ?_
 rcases zaa h with ⟨h1,h⟩ | ⟨h1,h⟩
 cases h;refine zab rfl ?_;rotate_left
 rcases zaa h with ⟨h2,h⟩ | ⟨h2,h⟩
 obtain ⟨res,h3,h⟩:=zac h
 rcases zaa h with ⟨h4,h⟩ | ⟨h4,h⟩
 obtain ⟨res1,h5,h⟩:=zac h
 cases h;refine zab rfl ?_;rotate_left
 cases h;refine zab rfl ?_;rotate_left
 cases h;refine zab rfl ?_;rotate_left
 all_goals (dsimp only [R1] at *;show zar IF_ g24F _ _=_;exact fin_)
def zr6 (j:Job) (b0:Int):Option (Bool):=
 some (Ops.std.ieq j.id b0)
theorem zyq {j b0 r} (h:zr6 j b0=some r):zpd j b0=some r:=by
 unfold zr6 at h
 refine zas ?_
 cases h;refine zab rfl ?_;rotate_left
 all_goals (dsimp only [zg1] at *;show zar IF_ zI0 _ _=_;exact fin_)
def zcN (b0:Int) (γ:Nat → Nat):Int ⊕ Unit → X × St
 | .inl a0=>(.ret,⟨bd 4 (vI a0 :: bd 14 []),[.box 3 [vI b0]]⟩)
 | .inr ()=>(.brk 0,⟨bd 19 [],[.box 3 [vI b0]]⟩)
instance {b0}:InjS (zcN b0):=⟨fun γ γ' x y h=>by
 rcases x with a0 | _ <;> rcases y with a0' | _ <;> simp only [zcN] at h <;> exact inj_⟩
def zeQ (s:List Job) (b0:Int) (t8:Int):Option (Int ⊕ Unit):=asks (fun γ=>(lim F pr).loop [7,1,0,8] 1 zqg ⟨.lit 67 false (List.map eJob s) :: .fn 210 [.bptr 0 0] :: bd 5 (vI (xlen eJob s) :: vI t8 :: bd 10 []),[.box 3 [vI b0]]⟩) (zcN b0)
def zcM (s:List Job) (b0:Int) (t8:Int):Option (Int ⊕ Unit):=
 bif Ops.std.ilt t8 (xlen eJob s) then
  (xget eJob s t8).bind fun x=>
  (zpd x b0).bind fun res=>
  bif res then some (.inl t8) else
  zeQ s b0 (Ops.std.iadd .i64 t8 1)
 else
  some (.inr ())
theorem zgH {s b0 t8 r} (h:zcM s b0 t8=some r):zeQ s b0 t8=some r:=by
 unfold zcM at h
 refine zap fun γ=>?_
 rcases zaa h with ⟨h1,h⟩ | ⟨h1,h⟩
 obtain ⟨x,h2,h⟩:=zac h
 obtain ⟨res,h3,h⟩:=zac h
 rcases zaa h with ⟨h4,h⟩ | ⟨h4,h⟩
 cases h;refine ⟨gam [],zad ?_⟩;rotate_left
 replace h:=zal h (gam []);obtain ⟨γ',h0⟩:=h;refine ⟨γ',zad ?_⟩;rotate_left
 cases h;refine ⟨gam [],zad ?_⟩;rotate_left
 all_goals (dsimp only [zcN,zg1] at *;show zaR IF_ _ _ zqg zCU _=_;generalize zqg=c0 at *;exact fin_)
def zjo (s:List Job) (b0:Int):Option (Int):=
 (zeQ s b0 0).bind fun r=>match r with
  | .inl t4=>
   some t4
  | .inr ()=>
   some (-1)
theorem zuQ {s b0 r} (h:zjo s b0=some r):zon s b0=some r:=by
 unfold zjo at h
 refine zas ?_
 obtain ⟨r1,γ1,h1,h⟩:=zag h (gam [])
 rcases r1 with t4 | _
 cases h;refine zab rfl ?_;rotate_left
 cases h;refine zab rfl ?_;rotate_left
 all_goals (dsimp only [zdU,zcN] at *;show zar IF_ (zIZ zqg) _ _=_;generalize zqg=c0 at *;exact fin_)
def zre (m:Msg):Option (Msg):=
 bif zaK zah 16 [] m.peers then
  bif zaK zan 32 [] m.pairs then some m else
  none
 else
  none
theorem zDZ {m r} (h:zre m=some r):zvp m=some r:=by
 unfold zre at h
 refine zas ?_
 obtain ⟨h1,h⟩:=zat h
 obtain ⟨h2,h⟩:=zat h
 cases h;refine zab rfl ?_;rotate_left
 all_goals (dsimp only [R1] at *;show zar IF_ zIw _ _=_;exact fin_)
def zrl (n:Node):Option (Int):=
 bif Ops.std.ilt n.clock 0 then some 0 else
 bif Ops.std.ilt 1099511627776 n.clock then some 0 else
 some n.clock
theorem zD5 {n r} (h:zrl n=some r):zvq n=some r:=by
 unfold zrl at h
 refine zas ?_
 rcases zaa h with ⟨h1,h⟩ | ⟨h1,h⟩
 cases h;refine zab rfl ?_;rotate_left
 rcases zaa h with ⟨h2,h⟩ | ⟨h2,h⟩
 cases h;refine zab rfl ?_;rotate_left
 cases h;refine zab rfl ?_;rotate_left
 all_goals (dsimp only [R1] at *;show zar IF_ zIx _ _=_;exact fin_)
def znR (l:List Entry):Option ((List Peer)):=
 ztc l
theorem zAp {l r} (h:znR l=some r):zkU l=some r:=by
 unfold znR at h
 refine zas ?_
 have h1:=ask_some h
 rcases r with res
 refine zab rfl ?_;rotate_left
 all_goals (dsimp only [K1] at *;show zar IF_ g76F _ _=_;exact fin_)
def zpL (a:Int) (x:Int) (b:Int):Option (Bool):=
 bif Ops.std.ieq a b then some true else
 bif Ops.std.ieq x b then some true else
 zgg a x b
theorem zBY {a x b r} (h:zpL a x b=some r):zkK a x b=some r:=by
 unfold zpL at h
 refine zas ?_
 rcases zaa h with ⟨h1,h⟩ | ⟨h1,h⟩
 cases h;refine zab rfl ?_;rotate_left
 rcases zaa h with ⟨h2,h⟩ | ⟨h2,h⟩
 cases h;refine zab rfl ?_;rotate_left
 have h3:=ask_some h
 rcases r with res
 refine zab rfl ?_;rotate_left
 all_goals (dsimp only [R1] at *;show zar IF_ zIQ _ _=_;exact fin_)
def zl1 (n:Node) (key:Int):Option (Bool):=
 bif Ops.std.ilt 0 (xlen zai n.pred) then
  (xget zai n.pred 0).bind fun x=>
  bif Ops.std.ile x.misses 0 then zkK x.peer.id key n.me.id else
  some false
 else
  some false
theorem zxB {n key r} (h:zl1 n key=some r):zn7 n key=some r:=by
 unfold zl1 at h
 refine zas ?_
 rcases zaa h with ⟨h1,h⟩ | ⟨h1,h⟩
 obtain ⟨x,h2,h⟩:=zac h
 rcases zaa h with ⟨h3,h⟩ | ⟨h3,h⟩
 have h4:=ask_some h
 rcases r with res
 refine zab rfl ?_;rotate_left
 cases h;refine zab rfl ?_;rotate_left
 cases h;refine zab rfl ?_;rotate_left
 all_goals (dsimp only [R1] at *;show zar IF_ zIR _ _=_;exact fin_)
def zeS (me:Peer) (key:Int) (most:Int) (γ:Nat → Nat):(List Peer) → X × St
 | a0=>(.brk 0,⟨bd 3 (vU key :: vI most :: .bptr 0 0 :: bd 5 (.sl 2 ((γ 2)) :: bd 63 [])),[.box 25 [vU me.id,vH me.addr],.row 25 (γ 1) false (List.map zah []),.row 25 (γ 2) false (List.map zah a0)]⟩)
instance {me key most}:InjS (zeS me key most):=⟨fun γ γ' x y h=>by
 rcases x with a0 <;> rcases y with a0' <;> simp only [zeS] at h <;> exact inj_⟩
def zjO (me:Peer) (f:List Finger) (key:Int) (most:Int) (t22:Int) (r2:List Peer):Option ((List Peer)):=asks (fun γ=>(lim F pr).loop [21,20,22,11,3,5,4] 3 zqd ⟨bd 3 (vU key :: vI most :: .bptr 0 0 :: bd 5 (.sl 2 ((γ 2)) :: bd 8 (.lit 84 false (List.map zae f) :: vI (xlen zae f) :: vI t22 :: bd 52 []))),[.box 25 [vU me.id,vH me.addr],.row 25 (γ 1) false (List.map zah []),.row 25 (γ 2) false (List.map zah r2)]⟩) (zeS me key most)
def zeT (me:Peer) (most:Int) (γ:Nat → Nat):((List Peer) × (List Peer)) → X × St
 | (a0,a1)=>(.brk 2,⟨bd 4 (vI most :: .bptr 0 0 :: bd 8 (.sl 3 ((γ 3)) :: bd 60 [])),[.box 25 [vU me.id,vH me.addr],.row 25 (γ 1) false (List.map zah []),.row 25 (γ 2) true (List.map zah a0),.row 25 (γ 3) false (List.map zah a1)]⟩)
instance {me most}:InjS (zeT me most):=⟨fun γ γ' x y h=>by
 rcases x with ⟨a0,a1⟩ <;> rcases y with ⟨a0',a1'⟩ <;> simp only [zeT] at h <;> exact inj_⟩
def zcX (me:Peer) (key:Int) (most:Int) (t32:List Peer) (t33:Int) (t34:Int) (r2:List Peer) (r3:List Peer):Option (((List Peer) × (List Peer))):=asks (fun γ=>(lim F pr).loop [33,32,11,3,34,5,14,4] 4 zqe ⟨bd 3 (vU key :: vI most :: .bptr 0 0 :: bd 5 (.sl 2 ((γ 2)) :: bd 2 (.sl 3 ((γ 3)) :: bd 17 (.lit 25 false (List.map zah t32) :: vI t33 :: vI t34 :: bd 40 [])))),[.box 25 [vU me.id,vH me.addr],.row 25 (γ 1) false (List.map zah []),.row 25 (γ 2) true (List.map zah r2),.row 25 (γ 3) false (List.map zah r3)]⟩) (zeT me most)
def zhN (me:Peer) (f:List Finger) (key:Int) (most:Int) (t22:Int) (r2:List Peer):Option ((List Peer)):=
 bif Ops.std.ilt t22 (xlen zae f) then
  (xget zae f t22).bind fun x=>
  bif zaK zah 16 r2 [x.peer] then
   zjO me f key most (Ops.std.iadd .i64 t22 1) (r2 ++ [x.peer])
  else
   none
 else
  some r2
theorem zoB {me f key most t22 r2 r} (h:zhN me f key most t22 r2=some r):zjO me f key most t22 r2=some r:=by
 unfold zhN at h
 refine zap fun γ=>?_
 rcases zaa h with ⟨h1,h⟩ | ⟨h1,h⟩
 obtain ⟨x,h2,h⟩:=zac h
 obtain ⟨h3,h⟩:=zat h
 replace h:=zal h (gam [0,(γ 1),((γ 2) + 1)]);obtain ⟨γ',h0⟩:=h;refine ⟨γ',zad ?_⟩;rotate_left
 cases h;refine ⟨gam [0,(γ 1),(γ 2)],zad ?_⟩;rotate_left
 all_goals (dsimp only [zeS] at *;show zaR IF_ _ _ zqd zCR _=_;generalize zqd=c0 at *;exact fin_)
def zhO (me:Peer) (key:Int) (most:Int) (t32:List Peer) (t33:Int) (t34:Int) (r2:List Peer) (r3:List Peer):Option (((List Peer) × (List Peer))):=
 bif Ops.std.ilt t34 t33 then
  (xget zah t32 t34).bind fun x=>
  (zlx r2 x.id x.addr).bind fun res=>
  bif Ops.std.ieq res t34 then
   bif Ops.std.ieq x.addr me.addr then zcX me key most t32 t33 (Ops.std.iadd .i64 t34 1) r2 r3 else
   (zgg me.id x.id key).bind fun res1=>
   bif res1 then
    bif zaK zah 16 r3 [x] then
     zcX me key most t32 t33 (Ops.std.iadd .i64 t34 1) r2 (r3 ++ [x])
    else
     none
   else
    zcX me key most t32 t33 (Ops.std.iadd .i64 t34 1) r2 r3
  else
   zcX me key most t32 t33 (Ops.std.iadd .i64 t34 1) r2 r3
 else
  some (r2,r3)
theorem zoC {me key most t32 t33 t34 r2 r3 r} (h:zhO me key most t32 t33 t34 r2 r3=some r):zcX me key most t32 t33 t34 r2 r3=some r:=by
 unfold zhO at h
 refine zap fun γ=>?_
 rcases zaa h with ⟨h1,h⟩ | ⟨h1,h⟩
 obtain ⟨x,h2,h⟩:=zac h
 obtain ⟨res,h3,h⟩:=zac h
 rcases zaa h with ⟨h4,h⟩ | ⟨h4,h⟩
 rcases zaa h with ⟨h5,h⟩ | ⟨h5,h⟩
 replace h:=zal h (gam [0,(γ 1),(γ 2),(γ 3)]);obtain ⟨γ',h0⟩:=h;refine ⟨γ',zad ?_⟩;rotate_left
 obtain ⟨res1,h6,h⟩:=zac h
 rcases zaa h with ⟨h7,h⟩ | ⟨h7,h⟩
 obtain ⟨h8,h⟩:=zat h
 replace h:=zal h (gam [0,(γ 1),(γ 2),((γ 3) + 1)]);obtain ⟨γ',h0⟩:=h;refine ⟨γ',zad ?_⟩;rotate_left
 replace h:=zal h (gam [0,(γ 1),(γ 2),(γ 3)]);obtain ⟨γ',h0⟩:=h;refine ⟨γ',zad ?_⟩;rotate_left
 replace h:=zal h (gam [0,(γ 1),(γ 2),(γ 3)]);obtain ⟨γ',h0⟩:=h;refine ⟨γ',zad ?_⟩;rotate_left
 cases h;refine ⟨gam [0,(γ 1),(γ 2),(γ 3)],zad ?_⟩;rotate_left
 all_goals (dsimp only [zel,R1,zeT] at *;show zaR IF_ _ _ zqe zCS _=_;generalize zqe=c0 at *;exact fin_)
def znJ (me:Peer) (l:List Entry) (f:List Finger) (key:Int) (most:Int):Option ((List Peer)):=
 (zkU l).bind fun res=>
 (zjO me f key most 0 res).bind fun r2=>
 (zcX me key most r2 (xlen zah r2) 0 r2 []).bind fun ⟨r21,r3⟩=>
 (xsrt zah me.id r3).bind fun out=>
 bif Ops.std.ilt most 0 then
  bif Ops.std.ilt 0 (xlen zah out) then
   (xsub zah out 0 0).bind fun ys=>
   some ys
  else
   (xsub zah out 0 (xlen zah out)).bind fun ys=>
   some ys
 else
  bif Ops.std.ilt most (xlen zah out) then
   (xsub zah out 0 most).bind fun ys=>
   some ys
  else
   (xsub zah out 0 (xlen zah out)).bind fun ys=>
   some ys
theorem zz5 {me l f key most r} (h:znJ me l f key most=some r):zq3 me l f key most=some r:=by
 unfold znJ at h
 refine zas ?_
 obtain ⟨res,h1,h⟩:=zac h
 obtain ⟨r2,γ2,h2,h⟩:=zag h (gam [0,0,0])
 obtain ⟨r3,γ3,h3,h⟩:=zag h (gam [0,(γ2 1),(γ2 2),0])
 rcases r3 with ⟨r21,r3⟩
 obtain ⟨out,h4,h⟩:=zac h
 rcases zaa h with ⟨h5,h⟩ | ⟨h5,h⟩
 rcases zaa h with ⟨h6,h⟩ | ⟨h6,h⟩
 obtain ⟨ys,h7,h⟩:=zac h
 cases h;refine zab rfl ?_;rotate_left
 obtain ⟨ys,h7,h⟩:=zac h
 cases h;refine zab rfl ?_;rotate_left
 rcases zaa h with ⟨h6,h⟩ | ⟨h6,h⟩
 obtain ⟨ys,h7,h⟩:=zac h
 cases h;refine zab rfl ?_;rotate_left
 obtain ⟨ys,h7,h⟩:=zac h
 cases h;refine zab rfl ?_;rotate_left
 all_goals (dsimp only [K1,R1,zeS,zeT] at *;show zar IF_ (zIS zqd zqe) _ _=_;generalize zqd=c0,zqe=c1 at *;exact fin_)
def znx (i:Int) (j:Int) (r0:List Job):Option ((List Job)):=
 (xsub eJob r0 i j).bind fun ys=>
 (xsub eJob r0 j (xlen eJob r0)).bind fun ys1=>
 bif Ops.std.ieq i j then some r0 else
 (xsub eJob r0 0 i).bind fun ys2=>
 bif Ops.std.ieq 0 0 then
  bif Ops.std.ile (xlen eJob ys1) (Ops.std.isub .i64 (xlen eJob r0) i) then
   (xsub eJob (xput r0 i ys1) 0 (Ops.std.iadd .i64 i (xlen eJob ys1))).bind fun ys3=>
   (xsub eJob (xput r0 i ys1) (xlen eJob ys3) (xlen eJob r0)).bind fun ys4=>
   (xsub eJob (xfil (xput r0 i ys1) (xlen eJob ys3) (xlen eJob r0) (⟨0,0,0,⟨#[]⟩,⟨#[]⟩,0,(⟨0,0⟩:Peer),(⟨0,0⟩:Peer),false,0,0,0⟩:Job)) 0 (Ops.std.iadd .i64 i (xlen eJob ys1))).bind fun ys5=>
   some ys5
  else
   none
 else
  none
theorem zzz {i j r0 r} (h:znx i j r0=some r):zqJ i j r0=some r:=by
 unfold znx at h
 refine zap fun γ=>?_
 obtain ⟨ys,h1,h⟩:=zac h
 obtain ⟨ys1,h2,h⟩:=zac h
 rcases zaa h with ⟨h3,h⟩ | ⟨h3,h⟩
 cases h;refine ⟨gam [γ 0],zab rfl ?_⟩;rotate_left
 obtain ⟨ys2,h4,h⟩:=zac h
 obtain ⟨h5,h⟩:=zat h
 obtain ⟨h6,h⟩:=zat h
 obtain ⟨ys3,h7,h⟩:=zac h
 obtain ⟨ys4,h8,h⟩:=zac h
 obtain ⟨ys5,h9,h⟩:=zac h
 cases h;refine ⟨gam [(γ 0 + 1)],zab rfl ?_⟩;rotate_left
 all_goals (dsimp only [zhU] at *;show zar IF_ zI8 _ _=_;exact fin_)
def zfK (j:Job) (has:Bool) (val:ByteArray) (e_:Int) (zbp:Int) (za8:Int) (zbn:Int) (zbd:Bool) (zbP:Int) (zbo:Int) (za9:Int) (r1:List Entry) (r2:List Entry) (r3:List Finger) (r4:List Pair) (r5:List Pend) (r6:List Job) (r7:List Result) (γ:Nat → Nat):(List Result) → X × St
 | a0=>(.nor,⟨bd 53 [],[.box 34 [vU zbp,vH za8,vI zbn,vF zbd,.sl 1 ((γ 1)),.sl 2 ((γ 2)),.sl 3 ((γ 3)),.sl 4 ((γ 4)),.sl 5 ((γ 5)),.sl 6 ((γ 6)),.sl 9 ((γ 9)),vW zbP,vI zbo,vI za9],.row 81 (γ 1) false (List.map zai r1),.row 81 (γ 2) false (List.map zai r2),.row 84 (γ 3) false (List.map zae r3),.row 78 (γ 4) false (List.map zan r4),.row 88 (γ 5) false (List.map za4 r5),.row 67 (γ 6) false (List.map eJob r6),.row 60 (γ 7) false (List.map zaq (r7 ++ [(⟨j.id,j.kind,j.key,val,has,e_⟩:Result)])),.box 67 (cJob j),.row 60 (γ 9) false (List.map zaq a0)]⟩)
instance {j has val e_ zbp za8 zbn zbd zbP zbo za9 r1 r2 r3 r4 r5 r6 r7}:InjS (zfK j has val e_ zbp za8 zbn zbd zbP zbo za9 r1 r2 r3 r4 r5 r6 r7):=⟨fun γ γ' x y h=>by
 rcases x with a0 <;> rcases y with a0' <;> simp only [zfK] at h <;> exact inj_⟩
def zkP (j:Job) (has:Bool) (val:ByteArray) (e_:Int) (zbp:Int) (za8:Int) (zbn:Int) (zbd:Bool) (zbP:Int) (zbo:Int) (za9:Int) (r1:List Entry) (r2:List Entry) (r3:List Finger) (r4:List Pair) (r5:List Pend) (r6:List Job) (r7:List Result):Option ((List Result)):=asks (fun γ=>(lim F pr).seg [] zwk ⟨.bptr 0 0 :: bd 1 (vF has :: vT val :: vI e_ :: bd 1 (.bptr 8 0 :: bd 46 [])),[.box 34 [vU zbp,vH za8,vI zbn,vF zbd,.sl 1 ((γ 1)),.sl 2 ((γ 2)),.sl 3 ((γ 3)),.sl 4 ((γ 4)),.sl 5 ((γ 5)),.sl 6 ((γ 6)),.sl 7 ((γ 7)),vW zbP,vI zbo,vI za9],.row 81 (γ 1) false (List.map zai r1),.row 81 (γ 2) false (List.map zai r2),.row 84 (γ 3) false (List.map zae r3),.row 78 (γ 4) false (List.map zan r4),.row 88 (γ 5) false (List.map za4 r5),.row 67 (γ 6) false (List.map eJob r6),.row 60 (γ 7) false (List.map zaq r7),.box 67 (cJob j)]⟩) (zfK j has val e_ zbp za8 zbn zbd zbP zbo za9 r1 r2 r3 r4 r5 r6 r7)
def zqq (j:Job) (has:Bool) (val:ByteArray) (e_:Int) (zbp:Int) (za8:Int) (zbn:Int) (zbd:Bool) (zbP:Int) (zbo:Int) (za9:Int) (r1:List Entry) (r2:List Entry) (r3:List Finger) (r4:List Pair) (r5:List Pend) (r6:List Job) (r7:List Result):Option ((List Result)):=
 bif zaK zaq 64 r7 [(⟨j.id,j.kind,j.key,val,has,e_⟩:Result)] then
  bif Ops.std.ilt 0 (Ops.std.isub .i64 (xlen zaq (r7 ++ [(⟨j.id,j.kind,j.key,val,has,e_⟩:Result)])) 16) then
   (xsub zaq (r7 ++ [(⟨j.id,j.kind,j.key,val,has,e_⟩:Result)]) (Ops.std.isub .i64 (xlen zaq (r7 ++ [(⟨j.id,j.kind,j.key,val,has,e_⟩:Result)])) 16) (xlen zaq (r7 ++ [(⟨j.id,j.kind,j.key,val,has,e_⟩:Result)]))).bind fun ys=>
   bif zaK zaq 64 [] ys then some ys else
   none
  else
   (xsub zaq (r7 ++ [(⟨j.id,j.kind,j.key,val,has,e_⟩:Result)]) 0 (xlen zaq (r7 ++ [(⟨j.id,j.kind,j.key,val,has,e_⟩:Result)]))).bind fun ys=>
   bif zaK zaq 64 [] ys then some ys else
   none
 else
  none
theorem zxg {j has val e_ zbp za8 zbn zbd zbP zbo za9 r1 r2 r3 r4 r5 r6 r7 r} (h:zqq j has val e_ zbp za8 zbn zbd zbP zbo za9 r1 r2 r3 r4 r5 r6 r7=some r):zkP j has val e_ zbp za8 zbn zbd zbP zbo za9 r1 r2 r3 r4 r5 r6 r7=some r:=by
 unfold zqq at h
 refine zap fun γ=>?_
 obtain ⟨h1,h⟩:=zat h
 rcases zaa h with ⟨h2,h⟩ | ⟨h2,h⟩
 obtain ⟨ys,h3,h⟩:=zac h
 obtain ⟨h4,h⟩:=zat h
 cases h;refine ⟨gam [0,(γ 1),(γ 2),(γ 3),(γ 4),(γ 5),(γ 6),((γ 7) + 1),0,0],zak ?_⟩;rotate_left
 obtain ⟨ys,h3,h⟩:=zac h
 obtain ⟨h4,h⟩:=zat h
 cases h;refine ⟨gam [0,(γ 1),(γ 2),(γ 3),(γ 4),(γ 5),(γ 6),((γ 7) + 1),0,0],zak ?_⟩;rotate_left
 all_goals (dsimp only [zfK] at *;show Ifc.apart IF_ _ zC0 _=_;exact fin_)
def zpf (j:Job) (has:Bool) (val:ByteArray) (e_:Int) (zbp:Int) (za8:Int) (zbn:Int) (zbd:Bool) (zbP:Int) (zbo:Int) (za9:Int) (r1:List Entry) (r2:List Entry) (r3:List Finger) (r4:List Pair) (r5:List Pend) (r6:List Job) (r7:List Result):Option (((List Result) × (List Result)) ⊕ Unit):=
 bif Ops.std.ieq j.kind 2 then
  (zkP j has val e_ zbp za8 zbn zbd zbP zbo za9 r1 r2 r3 r4 r5 r6 r7).bind fun r9=>
  some (.inl ((r7 ++ [(⟨j.id,j.kind,j.key,val,has,e_⟩:Result)]),r9))
 else
  bif Ops.std.ieq j.kind 3 then
   (zkP j has val e_ zbp za8 zbn zbd zbP zbo za9 r1 r2 r3 r4 r5 r6 r7).bind fun r9=>
   some (.inl ((r7 ++ [(⟨j.id,j.kind,j.key,val,has,e_⟩:Result)]),r9))
  else
   some (.inr ())
theorem zBy {j has val e_ zbp za8 zbn zbd zbP zbo za9 r1 r2 r3 r4 r5 r6 r7 r} (h:zpf j has val e_ zbp za8 zbn zbd zbP zbo za9 r1 r2 r3 r4 r5 r6 r7=some r):zsY j has val e_ zbp za8 zbn zbd zbP zbo za9 r1 r2 r3 r4 r5 r6 r7=some r:=by
 unfold zpf at h
 refine zap fun γ=>?_
 rcases zaa h with ⟨h1,h⟩ | ⟨h1,h⟩
 obtain ⟨r9,γ1,h2,h⟩:=zag h (gam [0,γ 1,γ 2,γ 3,γ 4,γ 5,γ 6,γ 7])
 cases h;refine ⟨gam [0,(γ1 1),(γ1 2),(γ1 3),(γ1 4),(γ1 5),(γ1 6),(γ1 7),(γ1 9)],zab rfl ?_⟩;rotate_left
 rcases zaa h with ⟨h2,h⟩ | ⟨h2,h⟩
 obtain ⟨r9,γ1,h3,h⟩:=zag h (gam [0,γ 1,γ 2,γ 3,γ 4,γ 5,γ 6,γ 7])
 cases h;refine ⟨gam [0,(γ1 1),(γ1 2),(γ1 3),(γ1 4),(γ1 5),(γ1 6),(γ1 7),(γ1 9)],zab rfl ?_⟩;rotate_left
 cases h;refine ⟨gam [0,γ 1,γ 2,γ 3,γ 4,γ 5,γ 6,γ 7],zab rfl ?_⟩;rotate_left
 all_goals (dsimp only [zjz,zfK] at *;show zar IF_ (zI9 zwk) _ _=_;generalize zwk=c0 at *;exact fin_)
def zr4 (f:Finger) (b0:Int):Option (Bool):=
 some (Ops.std.ieq f.bit b0)
theorem zyo {f b0 r} (h:zr4 f b0=some r):zo9 f b0=some r:=by
 unfold zr4 at h
 refine zas ?_
 cases h;refine zab rfl ?_;rotate_left
 all_goals (dsimp only [zgY] at *;show zar IF_ zJd _ _=_;exact fin_)
def zb7 (r0:List Finger) (b1:Int) (γ:Nat → Nat):Int ⊕ Unit → X × St
 | .inl a0=>(.ret,⟨bd 4 (vI a0 :: bd 14 []),[.row 84 (γ 0) false (List.map zae r0),.box 3 [vI b1]]⟩)
 | .inr ()=>(.brk 0,⟨bd 19 [],[.row 84 (γ 0) false (List.map zae r0),.box 3 [vI b1]]⟩)
instance {r0 b1}:InjS (zb7 r0 b1):=⟨fun γ γ' x y h=>by
 rcases x with a0 | _ <;> rcases y with a0' | _ <;> simp only [zb7] at h <;> exact inj_⟩
def zdG (r0:List Finger) (b1:Int) (t8:Int):Option (Int ⊕ Unit):=askg (fun γ=>(lim F pr).loop [7,1,0,8] 2 zdW ⟨.sl 0 ((γ 0)) :: .fn 234 [.bptr 1 0] :: bd 5 (vI (xlen zae r0) :: vI t8 :: bd 10 []),[.row 84 (γ 0) false (List.map zae r0),.box 3 [vI b1]]⟩) (zb7 r0 b1)
def zb6 (r0:List Finger) (b1:Int) (t8:Int):Option (Int ⊕ Unit):=
 bif Ops.std.ilt t8 (xlen zae r0) then
  (xget zae r0 t8).bind fun x=>
  (zo9 x b1).bind fun res=>
  bif res then some (.inl t8) else
  zdG r0 b1 (Ops.std.iadd .i64 t8 1)
 else
  some (.inr ())
theorem zeF {r0 b1 t8 r} (h:zb6 r0 b1 t8=some r):zdG r0 b1 t8=some r:=by
 unfold zb6 at h
 refine zlz fun γ=>?_
 rcases zaa h with ⟨h1,h⟩ | ⟨h1,h⟩
 obtain ⟨x,h2,h⟩:=zac h
 obtain ⟨res,h3,h⟩:=zac h
 rcases zaa h with ⟨h4,h⟩ | ⟨h4,h⟩
 cases h;refine zad ?_;rotate_left
 have h0:=zoq h (gam [(γ 0)]);clear h;refine zad ?_;rotate_left
 cases h;refine zad ?_;rotate_left
 all_goals (dsimp only [zb7,zgY] at *;show zaR IF_ _ _ zdW zui _=_;generalize zdW=c0 at *;exact fin_)
def zgF (r0:List Finger) (b1:Int):Option (Int):=
 (zdG r0 b1 0).bind fun r=>match r with
  | .inl t4=>
   some t4
  | .inr ()=>
   some (-1)
theorem zqK {r0 b1 r} (h:zgF r0 b1=some r):zhV r0 b1=some r:=by
 unfold zgF at h
 refine zlz fun γ=>?_
 obtain ⟨r1,h1,h⟩:=zgy h (gam [γ 0])
 rcases r1 with t4 | _
 cases h;refine zab rfl ?_;rotate_left
 cases h;refine zab rfl ?_;rotate_left
 all_goals (dsimp only [zcK,zb7] at *;show zar IF_ (zzu zdW) _ _=_;generalize zdW=c0 at *;exact fin_)
def zr5 (f:Finger) (b0:Int):Option (Bool):=
 some (Ops.std.ilt b0 f.bit)
theorem zyp {f b0 r} (h:zr5 f b0=some r):zpa f b0=some r:=by
 unfold zr5 at h
 refine zas ?_
 cases h;refine zab rfl ?_;rotate_left
 all_goals (dsimp only [zgZ] at *;show zar IF_ zJe _ _=_;exact fin_)
def zb9 (r0:List Finger) (b1:Int) (γ:Nat → Nat):Int ⊕ Unit → X × St
 | .inl a0=>(.ret,⟨bd 4 (vI a0 :: bd 14 []),[.row 84 (γ 0) false (List.map zae r0),.box 3 [vI b1]]⟩)
 | .inr ()=>(.brk 0,⟨bd 19 [],[.row 84 (γ 0) false (List.map zae r0),.box 3 [vI b1]]⟩)
instance {r0 b1}:InjS (zb9 r0 b1):=⟨fun γ γ' x y h=>by
 rcases x with a0 | _ <;> rcases y with a0' | _ <;> simp only [zb9] at h <;> exact inj_⟩
def zdH (r0:List Finger) (b1:Int) (t8:Int):Option (Int ⊕ Unit):=askg (fun γ=>(lim F pr).loop [7,1,0,8] 2 zdW ⟨.sl 0 ((γ 0)) :: .fn 235 [.bptr 1 0] :: bd 5 (vI (xlen zae r0) :: vI t8 :: bd 10 []),[.row 84 (γ 0) false (List.map zae r0),.box 3 [vI b1]]⟩) (zb9 r0 b1)
def zb8 (r0:List Finger) (b1:Int) (t8:Int):Option (Int ⊕ Unit):=
 bif Ops.std.ilt t8 (xlen zae r0) then
  (xget zae r0 t8).bind fun x=>
  (zpa x b1).bind fun res=>
  bif res then some (.inl t8) else
  zdH r0 b1 (Ops.std.iadd .i64 t8 1)
 else
  some (.inr ())
theorem zeG {r0 b1 t8 r} (h:zb8 r0 b1 t8=some r):zdH r0 b1 t8=some r:=by
 unfold zb8 at h
 refine zlz fun γ=>?_
 rcases zaa h with ⟨h1,h⟩ | ⟨h1,h⟩
 obtain ⟨x,h2,h⟩:=zac h
 obtain ⟨res,h3,h⟩:=zac h
 rcases zaa h with ⟨h4,h⟩ | ⟨h4,h⟩
 cases h;refine zad ?_;rotate_left
 have h0:=zoq h (gam [(γ 0)]);clear h;refine zad ?_;rotate_left
 cases h;refine zad ?_;rotate_left
 all_goals (dsimp only [zb9,zgZ] at *;show zaR IF_ _ _ zdW zui _=_;generalize zdW=c0 at *;exact fin_)
def zgG (r0:List Finger) (b1:Int):Option (Int):=
 (zdH r0 b1 0).bind fun r=>match r with
  | .inl t4=>
   some t4
  | .inr ()=>
   some (-1)
theorem zqL {r0 b1 r} (h:zgG r0 b1=some r):zhW r0 b1=some r:=by
 unfold zgG at h
 refine zlz fun γ=>?_
 obtain ⟨r1,h1,h⟩:=zgy h (gam [γ 0])
 rcases r1 with t4 | _
 cases h;refine zab rfl ?_;rotate_left
 cases h;refine zab rfl ?_;rotate_left
 all_goals (dsimp only [zcL,zb9] at *;show zar IF_ (zzu zdW) _ _=_;generalize zdW=c0 at *;exact fin_)
def zgi (key:ByteArray) (γ:Nat → Nat):(List Pair) → X × St
 | a0=>(.ret,⟨bd 6 (.sl 2 ((γ 2)) :: vI 0 :: bd 45 []),[.box 9 [vT key],.row 78 (γ 1) false (List.map zan []),.row 78 (γ 2) false (List.map zan a0)]⟩)
instance {key}:InjS (zgi key):=⟨fun γ γ' x y h=>by
 rcases x with a0 <;> rcases y with a0' <;> simp only [zgi] at h <;> exact inj_⟩
def zoa (l:List Pair) (key:ByteArray) (val:ByteArray):Option ((List Pair)):=asks (fun γ=>(lim F pr).seg [6,7] zzq ⟨bd 2 (vT val :: bd 1 (.bptr 0 0 :: bd 3 (.sl 2 ((γ 2)) :: bd 44 []))),[.box 9 [vT key],.row 78 (γ 1) false (List.map zan []),.row 78 (γ 2) false (List.map zan l)]⟩) (zgi key)
def zl3 (l:List Pair) (key:ByteArray) (val:ByteArray):Option ((List Pair)):=
 (zkf l key).bind fun res=>
 bif Ops.std.ilt res 0 then
  bif zaK zan 32 l [(⟨key,val⟩:Pair)] then
   (xsub zan l 0 (xlen zan l)).bind fun ys=>
   (xsub zan l (xlen zan l) (xlen zan l)).bind fun ys1=>
   some (ys ++ ([(⟨key,val⟩:Pair)] ++ ys1))
  else
   none
 else
  bif zaK zan 32 l [(⟨key,val⟩:Pair)] then
   (xsub zan l 0 res).bind fun ys=>
   (xsub zan l res (xlen zan l)).bind fun ys1=>
   some (ys ++ ([(⟨key,val⟩:Pair)] ++ ys1))
  else
   none
theorem zxF {l key val r} (h:zl3 l key val=some r):zoa l key val=some r:=by
 unfold zl3 at h
 refine zap fun γ=>?_
 obtain ⟨res,h1,h⟩:=zac h
 rcases zaa h with ⟨h2,h⟩ | ⟨h2,h⟩
 obtain ⟨h3,h⟩:=zat h
 obtain ⟨ys,h4,h⟩:=zac h
 obtain ⟨ys1,h5,h⟩:=zac h
 cases h;refine ⟨gam [0,(γ 1),((γ 2) + 1)],zak ?_⟩;rotate_left
 obtain ⟨h3,h⟩:=zat h
 obtain ⟨ys,h4,h⟩:=zac h
 obtain ⟨ys1,h5,h⟩:=zac h
 cases h;refine ⟨gam [0,(γ 1),((γ 2) + 1)],zak ?_⟩;rotate_left
 all_goals (dsimp only [zdm,zgi] at *;show Ifc.apart IF_ _ zFo _=_;exact fin_)
def zpO (l:List Pair) (key:ByteArray) (val:ByteArray):Option (((List Pair) × Int)):=
 bif zaK zan 32 [] l then
  (zmv l key).bind fun res=>
  (zxk key).bind fun res1=>
  bif res1 then
   bif Ops.std.ilt 512 (Ops.std.slen val) then some (l,5) else
   bif Ops.std.ile 0 res then
    (xget zan l res).bind fun x=>
    some (xset l res (⟨x.key,val⟩:Pair),0)
   else
    bif Ops.std.ile 64 (xlen zan l) then some (l,10) else
    (zoa l key val).bind fun r2=>
    some (r2,0)
  else
   some (l,7)
 else
  none
theorem zB8 {l key val r} (h:zpO l key val=some r):ztL l key val=some r:=by
 unfold zpO at h
 refine zas ?_
 obtain ⟨h1,h⟩:=zat h
 obtain ⟨res,h2,h⟩:=zac h
 obtain ⟨res1,h3,h⟩:=zac h
 rcases zaa h with ⟨h4,h⟩ | ⟨h4,h⟩
 rcases zaa h with ⟨h5,h⟩ | ⟨h5,h⟩
 cases h;refine zab rfl ?_;rotate_left
 rcases zaa h with ⟨h6,h⟩ | ⟨h6,h⟩
 obtain ⟨x,h7,h⟩:=zac h
 cases h;refine zab rfl ?_;rotate_left
 rcases zaa h with ⟨h7,h⟩ | ⟨h7,h⟩
 cases h;refine zab rfl ?_;rotate_left
 obtain ⟨r2,γ3,h8,h⟩:=zag h (gam [0,0,0])
 cases h;refine zab rfl ?_;rotate_left
 cases h;refine zab rfl ?_;rotate_left
 all_goals (dsimp only [R1,R2,zgi] at *;show zar IF_ (g75F zzq) _ _=_;generalize zzq=c0 at *;exact fin_)
abbrev zlg:=(Node × (List Entry) × (List Entry) × (List Finger) × (List Pair) × (List Pend) × (List Job) × (List Result) × (List Out))
def ze3 (to_:Peer) (γ:Nat → Nat):zlg → X × St
 | (a0,a1,a2,a3,a4,a5,a6,a7,a8)=>(.brk 0,⟨bd 4 (.bptr 0 0 :: bd 3 (.bptr 2 0 :: bd 1 (.sl 11 ((γ 11)) :: bd 29 []))),[.box 34 (zao a0),.box 25 [vU to_.id,vH to_.addr],.box 34 ([vU 0,vH 0,vI 0,vF false,.lit 0 true [],.lit 0 true [],.lit 0 true [],.lit 0 true [],.lit 0 true [],.lit 0 true [],.lit 0 true [],vW 0,vI 0,vI 0]),.row 56 (γ 3) false (List.map eOut []),.row 81 (γ 4) true (List.map zai a1),.row 81 (γ 5) true (List.map zai a2),.row 84 (γ 6) true (List.map zae a3),.row 78 (γ 7) true (List.map zan a4),.row 88 (γ 8) true (List.map za4 a5),.row 67 (γ 9) true (List.map eJob a6),.row 60 (γ 10) true (List.map zaq a7),.row 56 (γ 11) false (List.map eOut a8)]⟩)
instance {to_}:InjS (ze3 to_):=⟨fun γ γ' x y h=>by
 rcases x with ⟨a0,a1,a2,a3,a4,a5,a6,a7,a8⟩ <;> rcases y with ⟨a0',a1',a2',a3',a4',a5',a6',a7',a8'⟩ <;> simp only [ze3] at h <;> exact inj_⟩
def zj9 (to_:Peer) (fresh:Bool) (t18:List (List Pair)) (t19:Int) (t20:Int) (b0:Node) (r4:List Entry) (r5:List Entry) (r6:List Finger) (r7:List Pair) (r8:List Pend) (r9:List Job) (r10:List Result) (r11:List Out):Option (zlg):=asks (fun γ=>(lim F pr).loop [19,18,5,3,20,4,10,8] 12 zuh ⟨bd 3 (vF fresh :: .bptr 0 0 :: .bptr 1 0 :: bd 2 (.bptr 2 0 :: bd 1 (.sl 11 ((γ 11)) :: bd 7 (.lit 28 false (List.map (eL 78 zan) t18) :: vI t19 :: vI t20 :: bd 19 [])))),[.box 34 (zao b0),.box 25 [vU to_.id,vH to_.addr],.box 34 ([vU 0,vH 0,vI 0,vF false,.lit 0 true [],.lit 0 true [],.lit 0 true [],.lit 0 true [],.lit 0 true [],.lit 0 true [],.lit 0 true [],vW 0,vI 0,vI 0]),.row 56 (γ 3) false (List.map eOut []),.row 81 (γ 4) true (List.map zai r4),.row 81 (γ 5) true (List.map zai r5),.row 84 (γ 6) true (List.map zae r6),.row 78 (γ 7) true (List.map zan r7),.row 88 (γ 8) true (List.map za4 r8),.row 67 (γ 9) true (List.map eJob r9),.row 60 (γ 10) true (List.map zaq r10),.row 56 (γ 11) false (List.map eOut r11)]⟩) (ze3 to_)
def zhR (to_:Peer) (fresh:Bool) (t18:List (List Pair)) (t19:Int) (t20:Int) (b0:Node) (r4:List Entry) (r5:List Entry) (r6:List Finger) (r7:List Pair) (r8:List Pend) (r9:List Job) (r10:List Result) (r11:List Out):Option (zlg):=
 bif Ops.std.ilt t20 t19 then
  (xget (eL 78 zan) t18 t20).bind fun x=>
  (zlN b0 to_ (⟨10,0,0,fresh,0,⟨#[]⟩,⟨#[]⟩,(⟨0,0⟩:Peer),[],x⟩:Msg) 6 0).bind fun ⟨r0,r1⟩=>
  bif zaK eOut 136 r11 r1 then
   zj9 to_ fresh t18 t19 (Ops.std.iadd .i64 t20 1) r0 r4 r5 r6 r7 r8 r9 r10 (r11 ++ r1)
  else
   none
 else
  some (b0,r4,r5,r6,r7,r8,r9,r10,r11)
theorem zoY {to_ fresh t18 t19 t20 b0 r4 r5 r6 r7 r8 r9 r10 r11 r} (h:zhR to_ fresh t18 t19 t20 b0 r4 r5 r6 r7 r8 r9 r10 r11=some r):zj9 to_ fresh t18 t19 t20 b0 r4 r5 r6 r7 r8 r9 r10 r11=some r:=by
 unfold zhR at h
 refine zap fun γ=>?_
 rcases zaa h with ⟨h1,h⟩ | ⟨h1,h⟩
 obtain ⟨x,h2,h⟩:=zac h
 obtain ⟨r3,h3,h⟩:=zac h
 rcases r3 with ⟨r0,r1⟩
 obtain ⟨h4,h⟩:=zat h
 replace h:=zal h (gam [0,0,0,(γ 3),(γ 4),(γ 5),(γ 6),(γ 7),(γ 8),(γ 9),(γ 10),((γ 11) + 1)]);obtain ⟨γ',h0⟩:=h;refine ⟨γ',zad ?_⟩;rotate_left
 cases h;refine ⟨gam [0,0,0,(γ 3),(γ 4),(γ 5),(γ 6),(γ 7),(γ 8),(γ 9),(γ 10),(γ 11)],zad ?_⟩;rotate_left
 all_goals (dsimp only [R2,ze3] at *;show zaR IF_ _ _ zuh zEZ _=_;generalize zuh=c0 at *;exact fin_)
def zn8 (n:Node) (to_:Peer) (l:List Pair) (fresh:Bool):Option ((Node × (List Out))):=
 (zeY n).bind fun ⟨zaO,zaB,zaM,zaG,zaT,zaQ,zax,zaJ,zaF,zaL,zay,zaW,zaN,zaC⟩=>
 (xcut zan 78 l).bind fun cs=>
 (zj9 to_ fresh cs (xlen (eL 78 zan) cs) 0 (⟨(⟨zaO,zaB⟩:Peer),zaM,zaG,zaT,zaQ,zax,zaJ,zaF,zaL,zay,zaW,zaN,zaC⟩:Node) zaT zaQ zax zaJ zaF zaL zay []).bind fun ⟨b0,r4,r5,r6,r7,r8,r9,r10,r11⟩=>
 some (b0,r11)
theorem zAU {n to_ l fresh r} (h:zn8 n to_ l fresh=some r):zrR n to_ l fresh=some r:=by
 unfold zn8 at h
 refine zas ?_
 obtain ⟨r1,h1,h⟩:=zac h
 rcases r1 with ⟨zaO,zaB,zaM,zaG,zaT,zaQ,zax,zaJ,zaF,zaL,zay,zaW,zaN,zaC⟩
 obtain ⟨cs,h2,h⟩:=zac h
 obtain ⟨r3,γ2,h3,h⟩:=zag h (gam [0,0,0,0,0,0,0,0,0,0,0,0])
 rcases r3 with ⟨b0,r4,r5,r6,r7,r8,r9,r10,r11⟩
 cases h;refine zab rfl ?_;rotate_left
 all_goals (dsimp only [R2,zcm,ze3] at *;show zar IF_ (g22F zuh) _ _=_;generalize zuh=c0 at *;exact fin_)
def zss (l:List Pair) (key:ByteArray):Option (Int):=
 zny l key
theorem zyZ {l key r} (h:zss l key=some r):zmv l key=some r:=by
 unfold zss at h
 refine zas ?_
 have h1:=ask_some h
 rcases r with res
 refine zab rfl ?_;rotate_left
 all_goals (dsimp only [zdn,R1] at *;show zar IF_ zIr _ _=_;exact fin_)
def zhn (γ:Nat → Nat):Int ⊕ Unit → X × St
 | .inl a0=>(.ret,⟨bd 4 (vI a0 :: bd 15 []),[]⟩)
 | .inr ()=>(.brk 0,⟨bd 20 [],[]⟩)
instance :InjS zhn:=⟨fun γ γ' x y h=>by
 rcases x with a0 | _ <;> rcases y with a0' | _ <;> simp only [zhn] at h <;> exact inj_⟩
def zmp (l:List Job) (id:Int) (i:Int):Option (Int ⊕ Unit):=asks (fun γ=>(lim F pr).loop [0,1,5] 0 zuk ⟨.lit 67 false (List.map eJob l) :: vI id :: bd 3 (vI i :: bd 14 []),[]⟩) zhn
def zhm (l:List Job) (id:Int) (i:Int):Option (Int ⊕ Unit):=
 bif Ops.std.ilt i (xlen eJob l) then
  (xget eJob l i).bind fun x=>
  bif Ops.std.ieq x.id id then some (.inl i) else
  zmp l id (Ops.std.iadd .i64 i 1)
 else
  some (.inr ())
theorem zm2 {l id i r} (h:zhm l id i=some r):zmp l id i=some r:=by
 unfold zhm at h
 refine zap fun γ=>?_
 rcases zaa h with ⟨h1,h⟩ | ⟨h1,h⟩
 obtain ⟨x,h2,h⟩:=zac h
 rcases zaa h with ⟨h3,h⟩ | ⟨h3,h⟩
 cases h;refine ⟨gam [],zad ?_⟩;rotate_left
 replace h:=zal h (gam []);obtain ⟨γ',h0⟩:=h;refine ⟨γ',zad ?_⟩;rotate_left
 cases h;refine ⟨gam [],zad ?_⟩;rotate_left
 all_goals (dsimp only [zhn] at *;show zaR IF_ _ _ zuk zE1 _=_;generalize zuk=c0 at *;exact fin_)
def zrC (l:List Job) (id:Int):Option (Int):=
 (zmp l id 0).bind fun r=>match r with
  | .inl t4=>
   some t4
  | .inr ()=>
   some (-1)
theorem zEr {l id r} (h:zrC l id=some r):znZ l id=some r:=by
 unfold zrC at h
 refine zas ?_
 obtain ⟨r1,γ1,h1,h⟩:=zag h (gam [])
 rcases r1 with t4 | _
 cases h;refine zab rfl ?_;rotate_left
 cases h;refine zab rfl ?_;rotate_left
 all_goals (dsimp only [R1,zhn] at *;show zar IF_ (g33F zuk) _ _=_;generalize zuk=c0 at *;exact fin_)
abbrev zm6:=(Int × Int × (List Peer)) ⊕ ((List Peer) × (List Peer))
def zhq (n:Node) (γ:Nat → Nat):zm6 → X × St
 | .inl (a0,a1,a2)=>(.ret,⟨bd 4 (.bptr 1 0 :: .sl 4 ((γ 4)) :: vF true :: bd 71 []),[.box 34 (zao n),.box 25 [vU a0,vH a1],.row 25 (γ 2) false (List.map zah []),.row 25 (γ 3) false (List.map zah a2),.row 25 (γ 4) false (List.map zah [])]⟩)
 | .inr (b0,b1)=>(.ret,⟨bd 4 (.bptr 1 0 :: .lit 25 false (List.map zah b0) :: vF false :: bd 71 []),[.box 34 (zao n),.box 25 [vU 0,vH 0],.row 25 (γ 2) false (List.map zah []),.row 25 (γ 3) false (List.map zah b1)]⟩)
instance {n}:InjS (zhq n):=⟨fun γ γ' x y h=>by
 rcases x with ⟨a0,a1,a2⟩ | ⟨b0,b1⟩ <;> rcases y with ⟨a0',a1',a2'⟩ | ⟨b0',b1'⟩ <;> simp only [zhq] at h <;> exact inj_⟩
def zpD (n:Node) (key:Int) (r3:List Peer):Option (zm6):=asks (fun γ=>(lim F pr).seg [4,5,6] zzo ⟨bd 1 (vU key :: .bptr 0 0 :: bd 1 (.bptr 1 0 :: bd 2 (.sl 3 ((γ 3)) :: bd 70 []))),[.box 34 (zao n),.box 25 [vU 0,vH 0],.row 25 (γ 2) false (List.map zah []),.row 25 (γ 3) false (List.map zah r3)]⟩) (zhq n)
abbrev zm4:=(List Peer) ⊕ ((List Peer) × (List Peer))
def zhp (n:Node) (γ:Nat → Nat):zm4 → X × St
 | .inl a0=>(.ret,⟨bd 4 (.bptr 1 0 :: .sl 4 ((γ 4)) :: vF true :: bd 71 []),[.box 34 (zao n),.box 25 [vU n.me.id,vH n.me.addr],.row 25 (γ 2) false (List.map zah []),.row 25 (γ 3) false (List.map zah a0),.row 25 (γ 4) false (List.map zah [])]⟩)
 | .inr (b0,b1)=>(.ret,⟨bd 4 (.bptr 1 0 :: .lit 25 false (List.map zah b0) :: vF false :: bd 71 []),[.box 34 (zao n),.box 25 [vU 0,vH 0],.row 25 (γ 2) false (List.map zah []),.row 25 (γ 3) false (List.map zah b1)]⟩)
instance {n}:InjS (zhp n):=⟨fun γ γ' x y h=>by
 rcases x with a0 | ⟨b0,b1⟩ <;> rcases y with a0' | ⟨b0',b1'⟩ <;> simp only [zhp] at h <;> exact inj_⟩
def zhH (n:Node) (key:Int) (r3:List Peer):Option (zm4):=asks (fun γ=>(lim F pr).seg [4,5,6] zzn ⟨bd 1 (vU key :: .bptr 0 0 :: bd 1 (.bptr 1 0 :: bd 73 [])),[.box 34 (zao n),.box 25 [vU 0,vH 0],.row 25 (γ 2) false (List.map zah []),.row 25 (γ 3) false (List.map zah r3)]⟩) (zhp n)
def zj2 (n:Node) (key:Int) (r3:List Peer):Option (zm6):=
 (xget zah r3 0).bind fun x=>
 (znS n.me.id key x.id).bind fun res=>
 bif res then some (.inl (x.id,x.addr,r3)) else
 bif Ops.std.ilt 0 (xlen zai n.pred) then
  (xget zai n.pred 0).bind fun x1=>
  bif Ops.std.ilt x1.misses 1 then
   (znS x1.peer.id key n.me.id).bind fun res1=>
   bif res1 then some (.inl (n.me.id,n.me.addr,r3)) else
   (zhH n key r3).bind fun r=>match r with
    | .inl r31=>
     some (.inl (n.me.id,n.me.addr,r31))
    | .inr (t5,r31)=>
     some (.inr (t5,r31))
  else
   (zhH n key r3).bind fun r=>match r with
    | .inl r31=>
     some (.inl (n.me.id,n.me.addr,r31))
    | .inr (t5,r31)=>
     some (.inr (t5,r31))
 else
  (zhH n key r3).bind fun r=>match r with
   | .inl r31=>
    some (.inl (n.me.id,n.me.addr,r31))
   | .inr (t5,r31)=>
    some (.inr (t5,r31))
theorem zyN {n key r3 r} (h:zj2 n key r3=some r):zpD n key r3=some r:=by
 unfold zj2 at h
 refine zap fun γ=>?_
 obtain ⟨x,h1,h⟩:=zac h
 obtain ⟨res,h2,h⟩:=zac h
 rcases zaa h with ⟨h3,h⟩ | ⟨h3,h⟩
 cases h;refine ⟨gam [0,0,(γ 2),(γ 3),0],zak ?_⟩;rotate_left
 rcases zaa h with ⟨h4,h⟩ | ⟨h4,h⟩
 obtain ⟨x1,h5,h⟩:=zac h
 rcases zaa h with ⟨h6,h⟩ | ⟨h6,h⟩
 obtain ⟨res1,h7,h⟩:=zac h
 rcases zaa h with ⟨h8,h⟩ | ⟨h8,h⟩
 cases h;refine ⟨gam [0,0,(γ 2),(γ 3),0],zak ?_⟩;rotate_left
 obtain ⟨r9,γ3,h9,h⟩:=zag h (gam [0,0,(γ 2),(γ 3)])
 rcases r9 with r31 | ⟨t5,r31⟩
 cases h;refine ⟨gam [0,0,(γ3 2),(γ3 3),(γ3 4)],zak ?_⟩;rotate_left
 cases h;refine ⟨gam [0,0,(γ3 2),(γ3 3)],zak ?_⟩;rotate_left
 obtain ⟨r7,γ2,h7,h⟩:=zag h (gam [0,0,(γ 2),(γ 3)])
 rcases r7 with r31 | ⟨t5,r31⟩
 cases h;refine ⟨gam [0,0,(γ2 2),(γ2 3),(γ2 4)],zak ?_⟩;rotate_left
 cases h;refine ⟨gam [0,0,(γ2 2),(γ2 3)],zak ?_⟩;rotate_left
 obtain ⟨r5,γ2,h5,h⟩:=zag h (gam [0,0,(γ 2),(γ 3)])
 rcases r5 with r31 | ⟨t5,r31⟩
 cases h;refine ⟨gam [0,0,(γ2 2),(γ2 3),(γ2 4)],zak ?_⟩;rotate_left
 cases h;refine ⟨gam [0,0,(γ2 2),(γ2 3)],zak ?_⟩;rotate_left
 all_goals (dsimp only [R1,zhp,zhq] at *;show Ifc.apart IF_ _ (zFg zzn) _=_;generalize zzn=c0 at *;exact fin_)
def zm5 (n:Node) (key:Int) (r3:List Peer):Option (zm4):=
 (zvt n.me n.list n.fingers key 4).bind fun res=>
 bif Ops.std.ieq (xlen zah res) 0 then some (.inl r3) else
 some (.inr (res,r3))
theorem zyM {n key r3 r} (h:zm5 n key r3=some r):zhH n key r3=some r:=by
 unfold zm5 at h
 refine zap fun γ=>?_
 obtain ⟨res,h1,h⟩:=zac h
 rcases zaa h with ⟨h2,h⟩ | ⟨h2,h⟩
 cases h;refine ⟨gam [0,0,(γ 2),(γ 3),0],zak ?_⟩;rotate_left
 cases h;refine ⟨gam [0,0,(γ 2),(γ 3)],zak ?_⟩;rotate_left
 all_goals (dsimp only [R1,zhp] at *;show Ifc.apart IF_ _ zFf _=_;exact fin_)
def zrF (n:Node) (key:Int):Option ((Peer × (List Peer) × Bool)):=
 (znU n.list).bind fun res=>
 bif Ops.std.ieq (xlen zah res) 0 then some (n.me,[],true) else
 bif Ops.std.ieq key n.me.id then some (n.me,[],true) else
 (zpD n key res).bind fun r=>match r with
  | .inl (zbf,za2,r3)=>
   some ((⟨zbf,za2⟩:Peer),[],true)
  | .inr (t5,r3)=>
   some ((⟨0,0⟩:Peer),t5,false)
theorem zEt {n key r} (h:zrF n key=some r):zvx n key=some r:=by
 unfold zrF at h
 refine zas ?_
 obtain ⟨res,h1,h⟩:=zac h
 rcases zaa h with ⟨h2,h⟩ | ⟨h2,h⟩
 cases h;refine zab rfl ?_;rotate_left
 rcases zaa h with ⟨h3,h⟩ | ⟨h3,h⟩
 cases h;refine zab rfl ?_;rotate_left
 obtain ⟨r4,γ2,h4,h⟩:=zag h (gam [0,0,0,0])
 rcases r4 with ⟨zbf,za2,r3⟩ | ⟨t5,r3⟩
 cases h;refine zab rfl ?_;rotate_left
 cases h;refine zab rfl ?_;rotate_left
 all_goals (dsimp only [K1,R3,zhq] at *;show zar IF_ (g63F zzo) _ _=_;generalize zzo=c0 at *;exact fin_)
end Go.Ab.Tryz
