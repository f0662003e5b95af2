/- What any node is when a job is sought, an answer on the way comes, the last one comes, or none, and what it sends, is what the reference says, within the statement's bounds, and the chapter's examples hold. Conditions: none beyond the statement's own. -/
import Derived.Test.YtjmmobicnfojeaaGreatDoorRows
import Derived.Test.YtjmmobicnfojeaaGreatDoorCards
import Derived.Test.YtjmmobicnfojeaaGreatDoorTie
import Derived.WalkKit
import Derived.ProofKit
import Derived.OpenShut
import Derived.ShutString
import Derived.ChangeOld
import Derived.Below
import Derived.Carry
import Derived.SizedLaws
import Derived.SevenTiedAt
import Derived.Test.YtjmmobicnfojeaaGreatDoorQWg19
namespace Go.Proofs.YtjmmobicnfojeaaGreatDoor.workGoes
open Go.ChangeShapes Go.WideShapes Go.ChangeAt Go.RowKit
open Go.ChangeMaps (open_string shut_string)
open Go.Ab.Tryz (laidL tabs_of)
set_option linter.unusedVariables false
theorem own:ownKnob Tryz.prog.godebug=none:=by kernel_rfl
theorem laid:laidOutB Tryz.prog=true:=by kernel_rfl
set_option maxRecDepth 100000 in
theorem lifted (os:Os) (started:os.Started) (H:Type) (enc:TypeId × Value → H):
  ReturnsInHanded {} Tryz.checked os 10 .any (fun w args=>(Rows.workGoesSpec.pre enc Tryz.prog Tryz.f10 [] false w args ∧ laidMetH Tryz.prog laidL w) ∧ sizedMet enc Tryz.prog Tryz.f10 (OpenSpec.ofChange Rows.workGoesSpec) false w args) (Rows.workGoesSpec.post enc Tryz.prog Tryz.f10 false true false false):=by
 refine returnsInHanded_of_change_and (C:=Tryz.checked) (X:=fun w _=>laidMetH Tryz.prog laidL w) (fun _ _ _ hh h=>h.of_heap hh) own started (by kernel_rfl) Tryz.func10
  (ChangeSpec.witness_shaped (enc:=enc) (C:=Tryz.checked) (os:=os) (X:=fun w _=>laidMetH Tryz.prog laidL w) false (World.laidAll Tryz.prog os laidL) #[.agg #[.int .u64 0,.int .u16 0,.int .i64 0,.bool false,.slice none 0 0,.slice none 0 0,.slice none 0 0,.slice none 0 0,.slice none 0 0,.slice none 0 0,.slice none 0 0,.int .u32 0,.int .i64 0,.int .i64 0],.int .i64 0,.agg #[.int .i64 0,.int .u32 0,.int .u8 0,.bool false,.int .u64 0,.string ByteArray.empty,.string ByteArray.empty,.int .u64 0,.int .u16 0,.slice none 0 0,.slice none 0 0],.int .i64 0] 8 (World.laidAll_os _ _ _)
   (World.shaped_of_ZipB (by kernel_rfl) (by kernel_rfl)) (by kernel_rfl) (by kernel_rfl) (by kernel_rfl)
   (by rw [MakeChecks.laidMetH_plain _ _ _ (by kernel_rfl)];exact laidMet_laidAll _ (by kernel_rfl) (by kernel_rfl))) ?_
 intro W base args ds gs before hval0 hW _ _ hL _
 have hval:∀ (j:Nat) t v,Tryz.f10.params[j]?=some t → args[j]?=some v → Value.okWide Tryz.prog W .any base t v:=hval0
 have hW':=hW
 obtain ⟨p,q,hA0,hV,rfl,hfz,hnd⟩:=hW
 have hA:DataW.TrodAll enc Tryz.prog W 0 (fun _=>true) true Tryz.f10.params.toList args.toList ds p:=hA0
 rw [Tryz.params10] at hA hval
 obtain ⟨v0,vs0,d0,ds0,p0,q0,hargs,rfl,rfl,h0,r0⟩:=trodAll_cons hA
 obtain ⟨v1,vs1,d1,ds1,p1,q1,rfl,rfl,rfl,h1,r1⟩:=trodAll_cons r0
 obtain ⟨v2,vs2,d2,ds2,p2,q2,rfl,rfl,rfl,h2,r2⟩:=trodAll_cons r1
 obtain ⟨v3,vs3,d3,ds3,p3,q3,rfl,rfl,rfl,h3,r3⟩:=trodAll_cons r2
 obtain ⟨rfl,rfl,rfl⟩:=trodAll_nil r3
 obtain rfl:args=#[v0,v1,v2,v3]:=by cases args;simp_all
 obtain ⟨rfl,rfl⟩:=trodVars_none hV
 have hlt0:∀ x ∈ p0,x.block < W.heap.size:=fun x hx=>by simpa using hW'.lt x (by simp [hx])
 obtain ⟨a0,hd0,k0⟩:=Go.Ab.Tryz.arg34 (hval 0 34 v0 rfl rfl) h0
 obtain ⟨a1,rfl,rfl,rfl,w1⟩:=open_int Tryz.underlying3 (hval 1 3 v1 rfl rfl) h1
 have k1:=Go.Ab.wf_i64 w1
 have hlt2:∀ x ∈ p2,x.block < W.heap.size:=fun x hx=>by simpa using hW'.lt x (by simp [hx])
 obtain ⟨a2,hd2,k2⟩:=Go.Ab.Tryz.arg37 (hval 2 37 v2 rfl rfl) h2
 obtain ⟨a3,rfl,rfl,rfl,w3⟩:=open_int Tryz.underlying3 (hval 3 3 v3 rfl rfl) h3
 have k3:=Go.Ab.wf_i64 w3
 clear hA0 hval0
 have hcall:=Go.Ab.ask_some (Go.Ab.Tryz.law_Goes (n:=a0) (id:=a1) (m:=a2) (why:=a3) (Go.Ab.Tryz.nodeOk k0) (Go.Ab.Tryz.jobsOk k0) (Go.Ab.Tryz.peersOk k2))
 refine (Go.Ab.calls_scW (by kernel_rfl) Go.Ab.Tryz.F_ok W (fun f p=>Go.Ab.Tryz.pr_ok _ (tabs_of hL) f p) hcall (hd0.append (.sc rfl (hd2.append (.sc rfl .nil))))).mono fun e W' ⟨he,bel⟩=>?_
 subst he
 exact ⟨_,rfl,_,_,_,[],_,[],hW',trodAll_mk1 (shut_bool Tryz.underlying4 _),(trodAll_cons_mk (Below.trod laid (by kernel_rfl) (of_decide_eq_true (by kernel_rfl)) h0 bel hlt0) (trodAll_cons_mk (shut_int Tryz.underlying3 w1) (trodAll_cons_mk (Below.trod laid (by kernel_rfl) (of_decide_eq_true (by kernel_rfl)) h2 bel hlt2) (trodAll_cons_mk (shut_int Tryz.underlying3 w3) trodAll_mk0)))),rfl,bel.frame _,fun h=>by cases h⟩
theorem j1:(Rows.workGoesRow.inPlace == Tryz.pinned.checked.prog.inPlace 10)=true:=by kernel_rfl
theorem j2:(Rows.workGoesRow.unfollowed == Tryz.pinned.checked.prog.unfollowed 10)=true:=by kernel_rfl
theorem j3:(Rows.workGoesRow.recurses == Tryz.pinned.checked.prog.recurses 10)=true:=by kernel_rfl
theorem j4:(Rows.workGoesRow.named == Tryz.pinned.checked.prog.varsNamed 10)=true:=by kernel_rfl
theorem joined:joinedFacts Tryz.pinned.checked.prog 10 Tryz.f10 Rows.workGoesSpec Rows.workGoesRow=true:=by
 unfold joinedFacts
 simp only [j1,j2,j3,j4,Bool.and_true]
 kernel_rfl
theorem over:Rows.workGoesRow.holds Tryz.pinned (OpenSpec.ofChange Rows.workGoesSpec):=
 OpenClaim.holds_of_wide 10 Tryz.f10 rfl rfl rfl rfl rfl rfl rfl ⟨rfl,rfl,rfl,rfl,rfl⟩ rfl rfl rfl rfl rfl (by kernel_rfl) Tryz.func10 joined
  (of_decide_eq_true (by kernel_rfl)) (by unfold Func.isWrapper;first | (rw [if_pos (by decide +kernel)];kernel_rfl) | (rw [if_neg (by decide +kernel)];exact ⟨rfl,rfl⟩))
  (fun os started H enc _=>lifted os started H enc)
theorem proved:Rows.WorkGoesCardSaid:=
 Claim7.holds_tied_plain_at .later [] [.data,.pinned] true (true,"0dee92e9a5b8fae4ebc174d5ff21325cb42968737336fefe4f8422179dce6d0c") false over (fun _ h=>by cases h) (by kernel_rfl) (fun _ h=>by cases h) workGoes_row_tie rfl ⟨rfl,rfl⟩ (by kernel_rfl) rfl
  (fun f fn hf hfn=>by
   obtain rfl:f=10:=Option.some.inj ((show Tryz.prog.funcNamed "annulet/annuletlaw34.WorkGoes"=some 10 by kernel_rfl).symm.trans hf) |>.symm
   obtain rfl:fn=Tryz.f10:=(Option.some.inj (Tryz.func10.symm.trans hfn)).symm
   exact ⟨by kernel_rfl,fun j t ht=>by
    rw [Tryz.params10] at ht
    have hm:t ∈ [34,3,37,3]:=by simpa using Array.mem_of_getElem? ht
    have hall:([34,3,37,3].all fun u=>!Tryz.prog.wantsStandIn u)=true:=by kernel_rfl
    exact (show Tryz.prog.wantsStandIn t=false by simpa using List.all_eq_true.1 hall t hm)⟩)
  (by kernel_rfl)
#print axioms proved
end Go.Proofs.YtjmmobicnfojeaaGreatDoor.workGoes
namespace Go.Proofs.YtjmmobicnfojeaaGreatDoor
theorem workGoes_holds:Rows.WorkGoesCardSaid:=workGoes.proved
end Go.Proofs.YtjmmobicnfojeaaGreatDoor
