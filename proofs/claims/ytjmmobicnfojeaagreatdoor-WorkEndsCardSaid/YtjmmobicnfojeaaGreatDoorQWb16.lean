/- Our texts for this statement, merged: what its theorem leads to. -/
import Derived.Test.YtjmmobicnfojeaaGreatDoorQWb9
set_option linter.unusedVariables false
set_option linter.unusedSimpArgs false
noncomputable section
namespace Go.Ab.Tryz
open Go Go.Ab Go.Proofs
set_option maxRecDepth 10000
set_option maxHeartbeats 4000000
def zge (a:ByteArray) (b:ByteArray) (γ:Nat → Nat):Bool ⊕ Unit → X × St
 | .inl a0=>(.ret,⟨bd 4 (vF a0 :: bd 32 []),[]⟩)
 | .inr ()=>(.brk 0,⟨vT a :: vT b :: bd 35 [],[]⟩)
instance {a b}:InjS (zge a b):=⟨fun γ γ' x y h=>by
 rcases x with a0 | _ <;> rcases y with a0' | _ <;> simp only [zge] at h <;> exact inj_⟩
def zix (a:ByteArray) (b:ByteArray) (i:Int):Option (Bool ⊕ Unit):=asks (fun γ=>(lim F pr).loop [5,0,1] 0 zo2 ⟨vT a :: vT b :: bd 3 (vI i :: bd 31 []),[]⟩) (zge a b)
def zgf (a:ByteArray) (b:ByteArray) (γ:Nat → Nat):Int ⊕ Bool → X × St
 | .inl a0=>(.nor,⟨vT a :: vT b :: bd 3 (vI a0 :: bd 31 []),[]⟩)
 | .inr b0=>(.ret,⟨bd 4 (vF b0 :: bd 32 []),[]⟩)
instance {a b}:InjS (zgf a b):=⟨fun γ γ' x y h=>by
 rcases x with a0 | b0 <;> rcases y with a0' | b0' <;> simp only [zgf] at h <;> exact inj_⟩
def zk8 (a:ByteArray) (b:ByteArray) (i:Int):Option (Int ⊕ Bool):=asks (fun γ=>(lim F pr).seg [5,0,1] zva ⟨vT a :: vT b :: bd 3 (vI i :: bd 31 []),[]⟩) (zgf a b)
def zd8 (a:ByteArray) (b:ByteArray) (i:Int):Option (Bool ⊕ Unit):=
 bif Ops.std.ilt i (Ops.std.slen a) then
  bif Ops.std.ilt i (Ops.std.slen b) then
   (zk8 a b i).bind fun r=>match r with
    | .inl i1=>
     zix a b i1
    | .inr t4=>
     some (.inl t4)
  else
   some (.inr ())
 else
  some (.inr ())
theorem ziN {a b i r} (h:zd8 a b i=some r):zix a b i=some r:=by
 unfold zd8 at h
 refine zao fun γ=>?_
 rcases zaa h with ⟨h1,h⟩ | ⟨h1,h⟩
 rcases zaa h with ⟨h2,h⟩ | ⟨h2,h⟩
 obtain ⟨r3,γ1,h3,h⟩:=zah h (gam [])
 rcases r3 with i1 | t4
 replace h:=zak h (gam []);obtain ⟨γ',h0⟩:=h;refine ⟨γ',zad ?_⟩;rotate_left
 cases h;refine ⟨gam [],zad ?_⟩;rotate_left
 cases h;refine ⟨gam [],zad ?_⟩;rotate_left
 cases h;refine ⟨gam [],zad ?_⟩;rotate_left
 all_goals (dsimp only [zge,zgf] at *;show zaT IF_ _ _ zo2 (zBy zva) _=_;generalize zo2=c0,zva=c1 at *;exact fin_)
def ziO (a:ByteArray) (b:ByteArray) (i:Int):Option (Int ⊕ Bool):=
 (zb3 a i).bind fun b1=>
 (zb3 b i).bind fun b2=>
 bif Ops.std.ieq b1 b2 then some (.inl (Ops.std.iadd .i64 i 1)) else
 some (.inr (Ops.std.ilt b1 b2))
theorem zre {a b i r} (h:ziO a b i=some r):zk8 a b i=some r:=by
 unfold ziO at h
 refine zao fun γ=>?_
 obtain ⟨b1,h1,h⟩:=bind_some h
 obtain ⟨b2,h2,h⟩:=bind_some h
 rcases zaa h with ⟨h3,h⟩ | ⟨h3,h⟩
 cases h;refine ⟨gam [],zaj ?_⟩;rotate_left
 cases h;refine ⟨gam [],zaj ?_⟩;rotate_left
 all_goals (dsimp only [zgf] at *;show Ifc.apart IF_ _ zBx _=_;exact fin_)
def zqr (a:ByteArray) (b:ByteArray):Option (Bool):=
 (zix a b 0).bind fun r=>match r with
  | .inl t4=>
   some t4
  | .inr ()=>
   some (Ops.std.ilt (Ops.std.slen a) (Ops.std.slen b))
theorem zDd {a b r} (h:zqr a b=some r):zqq a b=some r:=by
 unfold zqr at h
 refine zau ?_
 obtain ⟨r1,γ1,h1,h⟩:=zah h (gam [])
 rcases r1 with t4 | _
 cases h;refine zab rfl ?_;rotate_left
 cases h;refine zab rfl ?_;rotate_left
 all_goals (dsimp only [R1,zge] at *;show zas IF_ (zHL zo2) _ _=_;generalize zo2=c0 at *;exact fin_)
def zgy (l:List Result) (j:Job) (has:Bool) (val:ByteArray) (e_:Int) (γ:Nat → Nat):Unit ⊕ (Int × Int) → X × St
 | .inl ()=>(.ret,⟨bd 10 (.sl 2 ((γ 2)) :: bd 32 []),[.box 67 (cJob j),.row 60 (γ 1) false (List.map zal []),.row 60 (γ 2) false (List.map zal (l ++ [(⟨j.id,j.kind,j.key,val,has,e_⟩:Result)]))]⟩)
 | .inr (b0,b1)=>(.ret,⟨bd 10 (.sub 2 ((γ 2)) (b0) (b1) :: bd 32 []),[.box 67 (cJob j),.row 60 (γ 1) false (List.map zal []),.row 60 (γ 2) false (List.map zal (l ++ [(⟨j.id,j.kind,j.key,val,has,e_⟩:Result)]))]⟩)
instance {l j has val e_}:InjS (zgy l j has val e_):=⟨fun γ γ' x y h=>by
 rcases x with _ | ⟨b0,b1⟩ <;> rcases y with _ | ⟨b0',b1'⟩ <;> simp only [zgy] at h <;> exact inj_⟩
def ziA (l:List Result) (j:Job) (has:Bool) (val:ByteArray) (e_:Int):Option (Unit ⊕ (Int × Int)):=asks (fun γ=>(lim F pr).seg [10] zvm ⟨.lit 60 false (List.map zal l) :: bd 1 (vF has :: vT val :: vI e_ :: bd 1 (.bptr 0 0 :: bd 36 [])),[.box 67 (cJob j),.row 60 (γ 1) false (List.map zal [])]⟩) (zgy l j has val e_)
def zdv (l:List Result) (j:Job) (has:Bool) (val:ByteArray) (e_:Int) (γ:Nat → Nat):Unit ⊕ (Int × Int) → X × St
 | .inl ()=>(.brk 0,⟨bd 11 (.sl 2 ((γ 2)) :: bd 31 []),[.box 67 (cJob j),.row 60 (γ 1) false (List.map zal []),.row 60 (γ 2) false (List.map zal (l ++ [(⟨j.id,j.kind,j.key,val,has,e_⟩:Result)]))]⟩)
 | .inr (b0,b1)=>(.brk 0,⟨bd 11 (.sub 2 ((γ 2)) (b0) (b1) :: bd 31 []),[.box 67 (cJob j),.row 60 (γ 1) false (List.map zal []),.row 60 (γ 2) false (List.map zal (l ++ [(⟨j.id,j.kind,j.key,val,has,e_⟩:Result)]))]⟩)
instance {l j has val e_}:InjS (zdv l j has val e_):=⟨fun γ γ' x y h=>by
 rcases x with _ | ⟨b0,b1⟩ <;> rcases y with _ | ⟨b0',b1'⟩ <;> simp only [zdv] at h <;> exact inj_⟩
def zoC (l:List Result) (j:Job) (has:Bool) (val:ByteArray) (e_:Int):Option (Unit ⊕ (Int × Int)):=asks (fun γ=>(lim F pr).loop [11] 3 zjE ⟨bd 11 (.sl 2 ((γ 2)) :: bd 31 []),[.box 67 (cJob j),.row 60 (γ 1) false (List.map zal []),.row 60 (γ 2) false (List.map zal (l ++ [(⟨j.id,j.kind,j.key,val,has,e_⟩:Result)]))]⟩) (zdv l j has val e_)
def zd9 (l:List Result) (j:Job) (has:Bool) (val:ByteArray) (e_:Int) (out_lo:Int) (out_hi:Int):Option (Unit ⊕ (Int × Int)):=asks (fun γ=>(lim F pr).loop [11] 3 zjE ⟨bd 11 (.sub 2 ((γ 2)) (out_lo) (out_hi) :: bd 31 []),[.box 67 (cJob j),.row 60 (γ 1) false (List.map zal []),.row 60 (γ 2) false (List.map zal (l ++ [(⟨j.id,j.kind,j.key,val,has,e_⟩:Result)]))]⟩) (zdv l j has val e_)
def zrq (l:List Result) (j:Job) (has:Bool) (val:ByteArray) (e_:Int):Option (Unit ⊕ (Int × Int)):=
 bif zaV zal 64 [] l then
  bif zaV zal 64 l [(⟨j.id,j.kind,j.key,val,has,e_⟩:Result)] then zoC l j has val e_ else
  none
 else
  none
theorem zxX {l j has val e_ r} (h:zrq l j has val e_=some r):ziA l j has val e_=some r:=by
 unfold zrq at h
 refine zao fun γ=>?_
 obtain ⟨h1,h⟩:=zaH h
 obtain ⟨h2,h⟩:=zaH h
 obtain ⟨γ1,h3⟩:=zak h (gam [0,(γ 1),1])
 rcases r with _ | ⟨out_lo,out_hi⟩
 refine ⟨gam [0,(γ1 1),(γ1 2)],zaj ?_⟩;rotate_left
 refine ⟨gam [0,(γ1 1),(γ1 2)],zaj ?_⟩;rotate_left
 all_goals (dsimp only [zdv,zgy] at *;show Ifc.apart IF_ _ (zBU zjE) _=_;generalize zjE=c0 at *;exact fin_)
def zrp (l:List Result) (j:Job) (has:Bool) (val:ByteArray) (e_:Int):Option (Unit ⊕ (Int × Int)):=
 bif Ops.std.ilt 16 (xlen zal (l ++ [(⟨j.id,j.kind,j.key,val,has,e_⟩:Result)])) then
  (xsub zal (l ++ [(⟨j.id,j.kind,j.key,val,has,e_⟩:Result)]) 1 (xlen zal (l ++ [(⟨j.id,j.kind,j.key,val,has,e_⟩:Result)]))).bind fun ys=>
  zd9 l j has val e_ 1 (xlen zal (l ++ [(⟨j.id,j.kind,j.key,val,has,e_⟩:Result)]))
 else
  some (.inl ())
theorem zxW {l j has val e_ r} (h:zrp l j has val e_=some r):zoC l j has val e_=some r:=by
 unfold zrp at h
 refine zao fun γ=>?_
 rcases zaa h with ⟨h1,h⟩ | ⟨h1,h⟩
 obtain ⟨ys,h2,h⟩:=zac h
 replace h:=zak h (gam [0,(γ 1),(γ 2)]);obtain ⟨γ',h0⟩:=h;refine ⟨γ',zad ?_⟩;rotate_left
 cases h;refine ⟨gam [0,(γ 1),(γ 2)],zad ?_⟩;rotate_left
 all_goals (dsimp only [zdv] at *;show zaT IF_ _ _ zjE zwg _=_;generalize zjE=c0 at *;exact fin_)
def znU (l:List Result) (j:Job) (has:Bool) (val:ByteArray) (e_:Int) (out_lo:Int) (out_hi:Int):Option (Unit ⊕ (Int × Int)):=
 (xsub zal (l ++ [(⟨j.id,j.kind,j.key,val,has,e_⟩:Result)]) out_lo out_hi).bind fun ys=>
 bif Ops.std.ilt 16 (xlen zal ys) then
  bif Ops.std.ieq out_lo 0 then
   (xsub zal (l ++ [(⟨j.id,j.kind,j.key,val,has,e_⟩:Result)]) 1 (xlen zal ys)).bind fun ys1=>
   zd9 l j has val e_ 1 (xlen zal ys)
  else
   (xsub zal ys 1 (xlen zal ys)).bind fun ys1=>
   zd9 l j has val e_ (Ops.std.iadd .i64 out_lo 1) (Ops.std.iadd .i64 out_lo (xlen zal ys))
 else
  some (.inr (out_lo,out_hi))
theorem znV {l j has val e_ out_lo out_hi r} (h:znU l j has val e_ out_lo out_hi=some r):zd9 l j has val e_ out_lo out_hi=some r:=by
 unfold znU at h
 refine zao fun γ=>?_
 obtain ⟨ys,h1,h⟩:=zac h
 rcases zaa h with ⟨h2,h⟩ | ⟨h2,h⟩
 rcases zaa h with ⟨h3,h⟩ | ⟨h3,h⟩
 obtain ⟨ys1,h4,h⟩:=zac h
 replace h:=zak h (gam [0,(γ 1),(γ 2)]);obtain ⟨γ',h0⟩:=h;refine ⟨γ',zad ?_⟩;rotate_left
 obtain ⟨ys1,h4,h⟩:=zac h
 replace h:=zak h (gam [0,(γ 1),(γ 2)]);obtain ⟨γ',h0⟩:=h;refine ⟨γ',zad ?_⟩;rotate_left
 cases h;refine ⟨gam [0,(γ 1),(γ 2)],zad ?_⟩;rotate_left
 all_goals (dsimp only [zdv] at *;show zaT IF_ _ _ zjE zwg _=_;generalize zjE=c0 at *;exact fin_)
def zqE (l:List Result) (j:Job) (has:Bool) (val:ByteArray) (e_:Int):Option ((List Result)):=
 bif Ops.std.ieq j.kind 2 then
  (ziA l j has val e_).bind fun r=>match r with
   | .inl ()=>
    some (l ++ [(⟨j.id,j.kind,j.key,val,has,e_⟩:Result)])
   | .inr (t10_lo,t10_hi)=>
    (xsub zal (l ++ [(⟨j.id,j.kind,j.key,val,has,e_⟩:Result)]) t10_lo t10_hi).bind fun ys=>
    some ys
 else
  bif Ops.std.ieq j.kind 3 then
   (ziA l j has val e_).bind fun r=>match r with
    | .inl ()=>
     some (l ++ [(⟨j.id,j.kind,j.key,val,has,e_⟩:Result)])
    | .inr (t10_lo,t10_hi)=>
     (xsub zal (l ++ [(⟨j.id,j.kind,j.key,val,has,e_⟩:Result)]) t10_lo t10_hi).bind fun ys=>
     some ys
  else
   some l
theorem zDr {l j has val e_ r} (h:zqE l j has val e_=some r):zuA l j has val e_=some r:=by
 unfold zqE at h
 refine zau ?_
 rcases zaa h with ⟨h1,h⟩ | ⟨h1,h⟩
 obtain ⟨r2,γ1,h2,h⟩:=zah h (gam [0,0])
 rcases r2 with _ | ⟨t10_lo,t10_hi⟩
 cases h;refine zab rfl ?_;rotate_left
 obtain ⟨ys,h3,h⟩:=zac h
 cases h;refine zab rfl ?_;rotate_left
 rcases zaa h with ⟨h2,h⟩ | ⟨h2,h⟩
 obtain ⟨r3,γ1,h3,h⟩:=zah h (gam [0,0])
 rcases r3 with _ | ⟨t10_lo,t10_hi⟩
 cases h;refine zab rfl ?_;rotate_left
 obtain ⟨ys,h4,h⟩:=zac h
 cases h;refine zab rfl ?_;rotate_left
 cases h;refine zab rfl ?_;rotate_left
 all_goals (dsimp only [R1,zgy] at *;show zas IF_ (zIp zvm) _ _=_;generalize zvm=c0 at *;exact fin_)
def zdS (γ:Nat → Nat):(List Job) → X × St
 | a0=>(.brk 0,⟨bd 5 (.sl 1 ((γ 1)) :: bd 18 []),[.row 67 (γ 0) false (List.map eJob []),.row 67 (γ 1) false (List.map eJob a0)]⟩)
instance :InjS zdS:=⟨fun γ γ' x y h=>by
 rcases x with a0 <;> rcases y with a0' <;> simp only [zdS] at h <;> exact inj_⟩
def zfq (l:List Job) (at_:Int) (i:Int) (r1:List Job):Option ((List Job)):=asks (fun γ=>(lim F pr).loop [1,0,6,5] 2 zpf ⟨.lit 67 false (List.map eJob l) :: vI at_ :: bd 3 (.sl 1 ((γ 1)) :: vI i :: bd 17 []),[.row 67 (γ 0) false (List.map eJob []),.row 67 (γ 1) false (List.map eJob r1)]⟩) zdS
def zfX (l:List Job) (at_:Int) (i:Int) (r1:List Job):Option ((List Job)):=
 bif Ops.std.ilt i (xlen eJob l) then
  bif Ops.std.ieq i at_ then zfq l at_ (Ops.std.iadd .i64 i 1) r1 else
  (xget eJob l i).bind fun x=>
  bif zaV eJob 128 r1 [x] then zfq l at_ (Ops.std.iadd .i64 i 1) (r1 ++ [x]) else
  none
 else
  some r1
theorem zm0 {l at_ i r1 r} (h:zfX l at_ i r1=some r):zfq l at_ i r1=some r:=by
 unfold zfX at h
 refine zao fun γ=>?_
 rcases zaa h with ⟨h1,h⟩ | ⟨h1,h⟩
 rcases zaa h with ⟨h2,h⟩ | ⟨h2,h⟩
 replace h:=zak h (gam [(γ 0),(γ 1)]);obtain ⟨γ',h0⟩:=h;refine ⟨γ',zad ?_⟩;rotate_left
 obtain ⟨x,h3,h⟩:=zac h
 obtain ⟨h4,h⟩:=zaH h
 replace h:=zak h (gam [(γ 0),((γ 1) + 1)]);obtain ⟨γ',h0⟩:=h;refine ⟨γ',zad ?_⟩;rotate_left
 cases h;refine ⟨gam [(γ 0),(γ 1)],zad ?_⟩;rotate_left
 all_goals (dsimp only [zdS] at *;show zaT IF_ _ _ zpf zBV _=_;generalize zpf=c0 at *;exact fin_)
def zlU (l:List Job) (at_:Int):Option ((List Job)):=
 zfq l at_ 0 []
theorem zxY {l at_ r} (h:zlU l at_=some r):zoD l at_=some r:=by
 unfold zlU at h
 refine zau ?_
 obtain ⟨γ1,h1⟩:=zak h (gam [0,0])
 rcases r with r1
 refine zab rfl ?_;rotate_left
 all_goals (dsimp only [R1,zdS] at *;show zas IF_ (zIq zpf) _ _=_;generalize zpf=c0 at *;exact fin_)
end Go.Ab.Tryz
