/- By an answer nobody comes to be in a node's list but who answered, or at whom a join was done, nobody is behind the node by it, and who did not answer is there no more firmly than it was, within the statement's bounds, and the chapter's examples hold. Conditions: none beyond the statement's own. -/
import Derived.Test.YtdjoeakbjackbaaGreatDoorRows
import Derived.Test.YtdjoeakbjackbaaGreatDoorCards
import Derived.Test.YtdjoeakbjackbaaGreatDoorTie
import Derived.WalkKit
import Derived.ProofKit
import Derived.OpenShut
import Derived.ShutString
import Derived.ChangeOld
import Derived.Below
import Derived.Carry
import Derived.SizedLaws
import Derived.SevenTiedAt
import Derived.Test.YtdjoeakbjackbaaGreatDoorQLx18
namespace Go.Proofs.YtdjoeakbjackbaaGreatDoor.learnSelf
open Go.ChangeShapes Go.WideShapes Go.ChangeAt Go.RowKit
open Go.ChangeMaps (open_string shut_string)
open Go.Ab.Tryz (laidL tabs_of)
set_option linter.unusedVariables false
open Option renaming some->ycx
theorem own:ownKnob Tryz.prog.godebug=none:=by kernel_rfl
theorem laid:laidOutB Tryz.prog=true:=by kernel_rfl
set_option maxRecDepth 100000 in
theorem lifted(os:Os)(started:os.Started)(H:Type)(enc:TypeId×Value->H):
  ReturnsInHanded {} Tryz.checked os 5 .any (fun w args=>(Rows.learnSelfSpec.pre enc Tryz.prog Tryz.f5 [] false w args/\laidMetH Tryz.prog laidL w)/\sizedMet enc Tryz.prog Tryz.f5 (OpenSpec.ofChange Rows.learnSelfSpec) false w args) (Rows.learnSelfSpec.post enc Tryz.prog Tryz.f5 false true false false):=by
 refine returnsInHanded_of_change_and (C:=Tryz.checked) (X:=fun w _=>laidMetH Tryz.prog laidL w) (fun _ _ _ hh h=>h.of_heap hh) own started (by kernel_rfl) Tryz.func5
  (ChangeSpec.witness_shaped (enc:=enc) (C:=Tryz.checked) (os:=os) (X:=fun w _=>laidMetH Tryz.prog laidL w) false (World.laidAll Tryz.prog os laidL) #[.agg #[.int .u64 0,.int .u16 0,.int .i64 0,.bool false,.slice none 0 0,.slice none 0 0,.slice none 0 0,.slice none 0 0,.slice none 0 0,.slice none 0 0,.slice none 0 0,.int .u32 0,.int .i64 0,.int .i64 0],.agg #[.int .u32 0,.int .i64 0,.int .i64 0,.int .i64 0,.int .u64 0,.int .u16 0,.int .i64 0],.agg #[.int .i64 0,.int .u32 0,.int .u8 0,.bool false,.int .u64 0,.string ByteArray.empty,.string ByteArray.empty,.int .u64 0,.int .u16 0,.slice none 0 0,.slice none 0 0]] 8 (World.laidAll_os _ _ _)
   (World.shaped_of_ZipB (by kernel_rfl) (by kernel_rfl)) (by kernel_rfl) (by kernel_rfl) (by kernel_rfl)
   (by rw[MakeChecks.laidMetH_plain _ _ _ (by kernel_rfl)];exact laidMet_laidAll _ (by kernel_rfl) (by kernel_rfl))) ?_
 intro W base args ds gs before hval0 hW _ _ hL _
 have hval:∀(j:Nat) t v,Tryz.f5.params[j]?=some t->args[j]?=some v->Value.okWide Tryz.prog W .any base t v:=hval0
 have hW':=hW
 obtain⟨p,q,hA0,hV,rfl,hfz,hnd⟩:=hW
 have hA:DataW.TrodAll enc Tryz.prog W 0 (fun _=>true) true Tryz.f5.params.toList args.toList ds p:=hA0
 rw[Tryz.params5]at hA hval
 obtain⟨v0,vs0,d0,ds0,p0,q0,hargs,rfl,rfl,h0,r0⟩:=trodAll_cons hA
 obtain⟨v1,vs1,d1,ds1,p1,q1,rfl,rfl,rfl,h1,r1⟩:=trodAll_cons r0
 obtain⟨v2,vs2,d2,ds2,p2,q2,rfl,rfl,rfl,h2,r2⟩:=trodAll_cons r1
 obtain⟨rfl,rfl,rfl⟩:=trodAll_nil r2
 obtain rfl:args=#[v0,v1,v2]:=by cases args;simp_all
 obtain⟨rfl,rfl⟩:=trodVars_none hV
 have hlt0:∀x∈p0,x.block<W.heap.size:=fun x hx=>by simpa using hW'.lt x (by simp[hx])
 obtain⟨a0,hd0,k0⟩:=Go.Ab.Tryz.arg34 (hval 0 34 v0 rfl rfl) h0
 have hlt1:∀x∈p1,x.block<W.heap.size:=fun x hx=>by simpa using hW'.lt x (by simp[hx])
 obtain⟨a1,hd1,k1⟩:=Go.Ab.Tryz.arg36 (hval 1 36 v1 rfl rfl) h1
 have hlt2:∀x∈p2,x.block<W.heap.size:=fun x hx=>by simpa using hW'.lt x (by simp[hx])
 obtain⟨a2,hd2,k2⟩:=Go.Ab.Tryz.arg39 (hval 2 39 v2 rfl rfl) h2
 clear hA0 hval0
 have hcall:=Go.Ab.ask_some (Go.Ab.Tryz.law_LSelf (n:=a0) (p:=a1) (m:=a2) (Go.Ab.Tryz.nodeOk k0) (Go.Ab.Tryz.jobsOk k0) (Go.Ab.Tryz.pendOk k1))
 refine(Go.Ab.calls_scW (by kernel_rfl) Go.Ab.Tryz.F_ok W (fun f p=>Go.Ab.Tryz.pr_ok _ (tabs_of hL) f p) hcall (hd0.append (hd1.append (hd2.append .nil)))).mono fun e W' ⟨he,bel⟩=>?_
 subst he
 exact⟨_,rfl,_,_,_,[],_,[],hW',trodAll_mk1 (shut_bool Tryz.underlying4 _),(trodAll_cons_mk (Below.trod laid (by kernel_rfl) (of_decide_eq_true (by kernel_rfl)) h0 bel hlt0) (trodAll_cons_mk (Below.trod laid (by kernel_rfl) (of_decide_eq_true (by kernel_rfl)) h1 bel hlt1) (trodAll_cons_mk (Below.trod laid (by kernel_rfl) (of_decide_eq_true (by kernel_rfl)) h2 bel hlt2) trodAll_mk0))),rfl,bel.frame _,fun h=>by cases h⟩
theorem j1:(Rows.learnSelfRow.inPlace==Tryz.pinned.checked.prog.inPlace 5)=true:=by kernel_rfl
theorem j2:(Rows.learnSelfRow.unfollowed==Tryz.pinned.checked.prog.unfollowed 5)=true:=by kernel_rfl
theorem j3:(Rows.learnSelfRow.recurses==Tryz.pinned.checked.prog.recurses 5)=true:=by kernel_rfl
theorem j4:(Rows.learnSelfRow.named==Tryz.pinned.checked.prog.varsNamed 5)=true:=by kernel_rfl
theorem joined:joinedFacts Tryz.pinned.checked.prog 5 Tryz.f5 Rows.learnSelfSpec Rows.learnSelfRow=true:=by
 unfold joinedFacts
 simp only[j1,j2,j3,j4,Bool.and_true]
 kernel_rfl
theorem over:Rows.learnSelfRow.holds Tryz.pinned (OpenSpec.ofChange Rows.learnSelfSpec):=
 OpenClaim.holds_of_wide 5 Tryz.f5 rfl rfl rfl rfl rfl rfl rfl ⟨rfl,rfl,rfl,rfl,rfl⟩ rfl rfl rfl rfl rfl (by kernel_rfl) Tryz.func5 joined
  (of_decide_eq_true (by kernel_rfl)) (by unfold Func.isWrapper;first|(rw[if_pos (by decide +kernel)];kernel_rfl)|(rw[if_neg (by decide +kernel)];exact⟨rfl,rfl⟩))
  (fun os started H enc _=>lifted os started H enc)
theorem q1:Rows.learnSelfRow.wfByText (OpenSpec.ofChange Rows.learnSelfSpec)=true:=by kernel_rfl
theorem q2:Tryz.pinned.checked.prog.mainIs=some ((true,"2986f696989c774690f31a275f22fc0c45d9ab2419357a0fed667cce49442e37").1,(true,"2986f696989c774690f31a275f22fc0c45d9ab2419357a0fed667cce49442e37").2.toList):=by kernel_rfl
theorem q3:Tryz.prog.funcNamed "annulet/annuletlaw35.LearnSelf"=some 5:=by kernel_rfl
theorem q4:false=Tryz.prog.looks []:=by kernel_rfl
theorem q5:([34,36,39].all fun u=>!Tryz.prog.wantsStandIn u)=true:=by kernel_rfl
theorem q6:false=Rows.learnSelfRow.goesBy Tryz.pinned.checked.prog:=by kernel_rfl
theorem proved:Rows.LearnSelfCardSaid:=
 Claim7.holds_tied_plain_at .later [] [.data,.pinned] true (true,"2986f696989c774690f31a275f22fc0c45d9ab2419357a0fed667cce49442e37") false over (fun _ h=>by cases h) q1 (fun _ h=>by cases h) learnSelf_row_tie rfl ⟨rfl,rfl⟩ q2 rfl
  (fun f fn hf hfn=>by
   obtain rfl:f=5:=ycx.inj (q3.symm.trans hf) |>.symm
   obtain rfl:fn=Tryz.f5:=(ycx.inj (Tryz.func5.symm.trans hfn)).symm
   exact⟨q4,fun j t ht=>by
    rw[Tryz.params5]at ht
    have hm:t∈[34,36,39]:=by simpa using Array.mem_of_getElem? ht
    exact(show Tryz.prog.wantsStandIn t=false by simpa using List.all_eq_true.1 q5 t hm)⟩)
  q6
#print axioms proved
end Go.Proofs.YtdjoeakbjackbaaGreatDoor.learnSelf
namespace Go.Proofs.YtdjoeakbjackbaaGreatDoor
theorem learnSelf_holds:Rows.LearnSelfCardSaid:=learnSelf.proved
end Go.Proofs.YtdjoeakbjackbaaGreatDoor
