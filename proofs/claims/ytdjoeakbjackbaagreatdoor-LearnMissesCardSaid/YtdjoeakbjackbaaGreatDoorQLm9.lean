/- Our texts for this statement, merged: what its theorem leads to. -/
import Derived.Test.YtdjoeakbjackbaaGreatDoorChecked
import Derived.Test.YtdjoeakbjackbaaGreatDoorQLm4
import Derived.Test.YtdjoeakbjackbaaGreatDoorQLm5
import Derived.Test.YtdjoeakbjackbaaGreatDoorQLm6
import Derived.Test.YtdjoeakbjackbaaGreatDoorQLm7
import Derived.Test.YtdjoeakbjackbaaGreatDoorQLm8
set_option linter.unusedVariables false
set_option linter.unusedSimpArgs false
noncomputable section
namespace Go.Ab.Tryz
open Go Go.Ab Go.Proofs
set_option maxHeartbeats 4000000
def F:FuncId->Option Fn
 |4=>some g4
 |12=>some g12
 |14=>some g14
 |15=>some g15
 |16=>some g16
 |18=>some g18
 |19=>some g19
 |20=>some g20
 |21=>some g21
 |22=>some g22
 |23=>some g23
 |25=>some g25
 |42=>some g42
 |49=>some g49
 |50=>some g50
 |51=>some g51
 |55=>some g55
 |56=>some g56
 |57=>some g57
 |58=>some g58
 |59=>some g59
 |60=>some g60
 |61=>some g61
 |62=>some g62
 |63=>some g63
 |64=>some g64
 |65=>some g65
 |66=>some g66
 |67=>some g67
 |68=>some g68
 |69=>some g69
 |70=>some g70
 |71=>some g71
 |72=>some g72
 |73=>some g73
 |74=>some g74
 |75=>some g75
 |76=>some g76
 |77=>some g77
 |78=>some g78
 |79=>some g79
 |83=>some g83
 |92=>some g92
 |98=>some g98
 |99=>some g99
 |102=>some g102
 |115=>some g115
 |117=>some g117
 |118=>some g118
 |119=>some g119
 |120=>some g120
 |121=>some g121
 |122=>some g122
 |123=>some g123
 |125=>some g125
 |126=>some g126
 |127=>some g127
 |128=>some g128
 |129=>some g129
 |130=>some g130
 |131=>some g131
 |132=>some g132
 |133=>some g133
 |134=>some g134
 |135=>some g135
 |136=>some g136
 |137=>some g137
 |138=>some g138
 |139=>some g139
 |140=>some g140
 |141=>some g141
 |142=>some g142
 |143=>some g143
 |154=>some g154
 |155=>some g155
 |158=>some g158
 |159=>some g159
 |161=>some g161
 |180=>some g180
 |186=>some g186
 |191=>some g191
 |192=>some g192
 |198=>some g198
 |199=>some g199
 |200=>some g200
 |201=>some g201
 |202=>some g202
 |203=>some g203
 |204=>some g204
 |205=>some g205
 |206=>some g206
 |207=>some g207
 |208=>some g208
 |209=>some g209
 |210=>some g210
 |211=>some g211
 |212=>some g212
 |213=>some g213
 |214=>some g214
 |215=>some g215
 |216=>some g216
 |217=>some g217
 |218=>some g218
 |219=>some g219
 |225=>some g225
 |226=>some g226
 |227=>some g227
 |229=>some g229
 |233=>some g233
 |243=>some g243
 |245=>some g245
 |248=>some g248
 |249=>some g249
 |252=>some g252
 |253=>some g253
 |254=>some g254
 |256=>some g256
 |257=>some g257
 |258=>some g258
 |259=>some g259
 |260=>some g260
 |261=>some g261
 |262=>some g262
 |263=>some g263
 |264=>some g264
 |271=>some g271
 |272=>some g272
 |273=>some g273
 |275=>some g275
 |277=>some g277
 |278=>some g278
 |280=>some g280
 |281=>some g281
 |283=>some g283
 |288=>some g288
 |291=>some g291
 |_=>none
theorem F_ok:∀f fn,F f=some fn->∃md fz,zac Tryz.prog md fz f=some fn:=by
 intro f fn h;unfold F at h;split at h
 ·cases h;exact⟨_,_,cmp4⟩
 ·cases h;exact⟨_,_,cmp12⟩
 ·cases h;exact⟨_,_,cmp14⟩
 ·cases h;exact⟨_,_,cmp15⟩
 ·cases h;exact⟨_,_,cmp16⟩
 ·cases h;exact⟨_,_,cmp18⟩
 ·cases h;exact⟨_,_,cmp19⟩
 ·cases h;exact⟨_,_,cmp20⟩
 ·cases h;exact⟨_,_,cmp21⟩
 ·cases h;exact⟨_,_,cmp22⟩
 ·cases h;exact⟨_,_,cmp23⟩
 ·cases h;exact⟨_,_,cmp25⟩
 ·cases h;exact⟨_,_,cmp42⟩
 ·cases h;exact⟨_,_,cmp49⟩
 ·cases h;exact⟨_,_,cmp50⟩
 ·cases h;exact⟨_,_,cmp51⟩
 ·cases h;exact⟨_,_,cmp55⟩
 ·cases h;exact⟨_,_,cmp56⟩
 ·cases h;exact⟨_,_,cmp57⟩
 ·cases h;exact⟨_,_,cmp58⟩
 ·cases h;exact⟨_,_,cmp59⟩
 ·cases h;exact⟨_,_,cmp60⟩
 ·cases h;exact⟨_,_,cmp61⟩
 ·cases h;exact⟨_,_,cmp62⟩
 ·cases h;exact⟨_,_,cmp63⟩
 ·cases h;exact⟨_,_,cmp64⟩
 ·cases h;exact⟨_,_,cmp65⟩
 ·cases h;exact⟨_,_,cmp66⟩
 ·cases h;exact⟨_,_,cmp67⟩
 ·cases h;exact⟨_,_,cmp68⟩
 ·cases h;exact⟨_,_,cmp69⟩
 ·cases h;exact⟨_,_,cmp70⟩
 ·cases h;exact⟨_,_,cmp71⟩
 ·cases h;exact⟨_,_,cmp72⟩
 ·cases h;exact⟨_,_,cmp73⟩
 ·cases h;exact⟨_,_,cmp74⟩
 ·cases h;exact⟨_,_,cmp75⟩
 ·cases h;exact⟨_,_,cmp76⟩
 ·cases h;exact⟨_,_,cmp77⟩
 ·cases h;exact⟨_,_,cmp78⟩
 ·cases h;exact⟨_,_,cmp79⟩
 ·cases h;exact⟨_,_,cmp83⟩
 ·cases h;exact⟨_,_,cmp92⟩
 ·cases h;exact⟨_,_,cmp98⟩
 ·cases h;exact⟨_,_,cmp99⟩
 ·cases h;exact⟨_,_,zJe⟩
 ·cases h;exact⟨_,_,zJf⟩
 ·cases h;exact⟨_,_,zJg⟩
 ·cases h;exact⟨_,_,zJh⟩
 ·cases h;exact⟨_,_,zJi⟩
 ·cases h;exact⟨_,_,zJj⟩
 ·cases h;exact⟨_,_,zJk⟩
 ·cases h;exact⟨_,_,zJl⟩
 ·cases h;exact⟨_,_,zJm⟩
 ·cases h;exact⟨_,_,zJn⟩
 ·cases h;exact⟨_,_,zJo⟩
 ·cases h;exact⟨_,_,zJp⟩
 ·cases h;exact⟨_,_,zJq⟩
 ·cases h;exact⟨_,_,zJr⟩
 ·cases h;exact⟨_,_,zJs⟩
 ·cases h;exact⟨_,_,zJt⟩
 ·cases h;exact⟨_,_,zJu⟩
 ·cases h;exact⟨_,_,zJv⟩
 ·cases h;exact⟨_,_,zJw⟩
 ·cases h;exact⟨_,_,zJx⟩
 ·cases h;exact⟨_,_,zJy⟩
 ·cases h;exact⟨_,_,zJz⟩
 ·cases h;exact⟨_,_,zJA⟩
 ·cases h;exact⟨_,_,zJB⟩
 ·cases h;exact⟨_,_,zJC⟩
 ·cases h;exact⟨_,_,zJD⟩
 ·cases h;exact⟨_,_,zJE⟩
 ·cases h;exact⟨_,_,zJF⟩
 ·cases h;exact⟨_,_,zJG⟩
 ·cases h;exact⟨_,_,zJH⟩
 ·cases h;exact⟨_,_,zJI⟩
 ·cases h;exact⟨_,_,zJJ⟩
 ·cases h;exact⟨_,_,zJK⟩
 ·cases h;exact⟨_,_,zJL⟩
 ·cases h;exact⟨_,_,zJM⟩
 ·cases h;exact⟨_,_,zJN⟩
 ·cases h;exact⟨_,_,zJO⟩
 ·cases h;exact⟨_,_,zJP⟩
 ·cases h;exact⟨_,_,zJQ⟩
 ·cases h;exact⟨_,_,zJR⟩
 ·cases h;exact⟨_,_,zJS⟩
 ·cases h;exact⟨_,_,zJT⟩
 ·cases h;exact⟨_,_,zJU⟩
 ·cases h;exact⟨_,_,zJV⟩
 ·cases h;exact⟨_,_,zJW⟩
 ·cases h;exact⟨_,_,zJX⟩
 ·cases h;exact⟨_,_,zJY⟩
 ·cases h;exact⟨_,_,zJZ⟩
 ·cases h;exact⟨_,_,zJ0⟩
 ·cases h;exact⟨_,_,zJ1⟩
 ·cases h;exact⟨_,_,zJ2⟩
 ·cases h;exact⟨_,_,zJ3⟩
 ·cases h;exact⟨_,_,zJ4⟩
 ·cases h;exact⟨_,_,zJ5⟩
 ·cases h;exact⟨_,_,zJ6⟩
 ·cases h;exact⟨_,_,zJ7⟩
 ·cases h;exact⟨_,_,zJ8⟩
 ·cases h;exact⟨_,_,zJ9⟩
 ·cases h;exact⟨_,_,zKa⟩
 ·cases h;exact⟨_,_,zKb⟩
 ·cases h;exact⟨_,_,zKc⟩
 ·cases h;exact⟨_,_,zKd⟩
 ·cases h;exact⟨_,_,zKe⟩
 ·cases h;exact⟨_,_,zKf⟩
 ·cases h;exact⟨_,_,zKg⟩
 ·cases h;exact⟨_,_,zKh⟩
 ·cases h;exact⟨_,_,zKi⟩
 ·cases h;exact⟨_,_,zKj⟩
 ·cases h;exact⟨_,_,zKk⟩
 ·cases h;exact⟨_,_,zKl⟩
 ·cases h;exact⟨_,_,zKm⟩
 ·cases h;exact⟨_,_,zKn⟩
 ·cases h;exact⟨_,_,zKo⟩
 ·cases h;exact⟨_,_,zKp⟩
 ·cases h;exact⟨_,_,zKq⟩
 ·cases h;exact⟨_,_,zKr⟩
 ·cases h;exact⟨_,_,zKs⟩
 ·cases h;exact⟨_,_,zKt⟩
 ·cases h;exact⟨_,_,zKu⟩
 ·cases h;exact⟨_,_,zKv⟩
 ·cases h;exact⟨_,_,zKy⟩
 ·cases h;exact⟨_,_,zKz⟩
 ·cases h;exact⟨_,_,zKA⟩
 ·cases h;exact⟨_,_,zKB⟩
 ·cases h;exact⟨_,_,zKC⟩
 ·cases h;exact⟨_,_,zKD⟩
 ·cases h;exact⟨_,_,zKE⟩
 ·cases h;exact⟨_,_,zKF⟩
 ·cases h;exact⟨_,_,zKG⟩
 ·cases h;exact⟨_,_,zKH⟩
 ·cases h;exact⟨_,_,zKI⟩
 ·cases h
end Go.Ab.Tryz
namespace Go.Ab.Tryz
open Go Go.Ab Go.Proofs
set_option maxRecDepth 10000
set_option maxHeartbeats 4000000
open Go.Value.bool renaming injEq->ybe
open Go.Value.int renaming injEq->ybi
open Go.Value.string renaming injEq->ya4
open List renaming map->yac,map_cons->ybn,map_nil->ycy
open List.cons renaming injEq->yaY
structure Peer where
 id:Int
 addr:Int
 deriving DecidableEq
def zad(x:Peer):AV:=.agg [vU x.id,vH x.addr]
theorem Peer.ext'{a b:Peer}:a=b<->a.id=b.id/\a.addr=b.addr:=by cases a;cases b;simp
instance :Inj zad:=⟨fun a b h=>by
 obtain⟨_,_⟩:=a;obtain⟨_,_⟩:=b
 simp only[zad,AV.agg.injEq,yaY,AV.sc.injEq,ybi,ybe,ya4,AV.lit.injEq,zdk,and_true,true_and,and_assoc]at h
 simp only[Peer.mk.injEq,and_assoc];simpa only[Peer.mk.injEq,and_assoc]using h⟩
theorem zD4{a b:Peer}:zad a=zad b<->a=b:=⟨Inj.inj a b,fun h=>by rw[h]⟩
structure Entry where
 peer:Peer
 misses:Int
 deriving DecidableEq
def zab(x:Entry):AV:=.agg [vU x.peer.id,vH x.peer.addr,vI x.misses]
theorem Entry.ext'{a b:Entry}:a=b<->a.peer=b.peer/\a.misses=b.misses:=by cases a;cases b;simp
instance :Inj zab:=⟨fun a b h=>by
 obtain⟨⟨_,_⟩,_⟩:=a;obtain⟨⟨_,_⟩,_⟩:=b
 simp only[zab,AV.agg.injEq,yaY,AV.sc.injEq,ybi,ybe,ya4,AV.lit.injEq,zdk,and_true,true_and,and_assoc]at h
 simp_all⟩
theorem zB8{a b:Entry}:zab a=zab b<->a=b:=⟨Inj.inj a b,fun h=>by rw[h]⟩
structure Finger where
 bit:Int
 peer:Peer
 deriving DecidableEq
def zaa(x:Finger):AV:=.agg [vI x.bit,vU x.peer.id,vH x.peer.addr]
theorem Finger.ext'{a b:Finger}:a=b<->a.bit=b.bit/\a.peer=b.peer:=by cases a;cases b;simp
instance :Inj zaa:=⟨fun a b h=>by
 obtain⟨_,⟨_,_⟩⟩:=a;obtain⟨_,⟨_,_⟩⟩:=b
 simp only[zaa,AV.agg.injEq,yaY,AV.sc.injEq,ybi,ybe,ya4,AV.lit.injEq,zdk,and_true,true_and,and_assoc]at h
 simp_all⟩
theorem zzQ{a b:Finger}:zaa a=zaa b<->a=b:=⟨Inj.inj a b,fun h=>by rw[h]⟩
structure Pair where
 key:ByteArray
 val:ByteArray
 deriving DecidableEq
def zag(x:Pair):AV:=.agg [vT x.key,vT x.val]
theorem Pair.ext'{a b:Pair}:a=b<->a.key=b.key/\a.val=b.val:=by cases a;cases b;simp
instance :Inj zag:=⟨fun a b h=>by
 obtain⟨_,_⟩:=a;obtain⟨_,_⟩:=b
 simp only[zag,AV.agg.injEq,yaY,AV.sc.injEq,ybi,ybe,ya4,AV.lit.injEq,zdk,and_true,true_and,and_assoc]at h
 simp only[Pair.mk.injEq,and_assoc];simpa only[Pair.mk.injEq,and_assoc]using h⟩
theorem zD3{a b:Pair}:zag a=zag b<->a=b:=⟨Inj.inj a b,fun h=>by rw[h]⟩
structure Pend where
 rid:Int
 kind:Int
 why:Int
 job:Int
 to_:Peer
 due:Int
 deriving DecidableEq
def zaI(x:Pend):AV:=.agg [vW x.rid,vI x.kind,vI x.why,vI x.job,vU x.to_.id,vH x.to_.addr,vI x.due]
theorem Pend.ext'{a b:Pend}:a=b<->a.rid=b.rid/\a.kind=b.kind/\a.why=b.why/\a.job=b.job/\a.to_=b.to_/\a.due=b.due:=by cases a;cases b;simp
instance :Inj zaI:=⟨fun a b h=>by
 obtain⟨_,_,_,_,⟨_,_⟩,_⟩:=a;obtain⟨_,_,_,_,⟨_,_⟩,_⟩:=b
 simp only[zaI,AV.agg.injEq,yaY,AV.sc.injEq,ybi,ybe,ya4,AV.lit.injEq,zdk,and_true,true_and,and_assoc]at h
 simp_all⟩
theorem zD5{a b:Pend}:zaI a=zaI b<->a=b:=⟨Inj.inj a b,fun h=>by rw[h]⟩
structure Job where
 id:Int
 kind:Int
 bit:Int
 key:ByteArray
 val:ByteArray
 target:Int
 via:Peer
 at_:Peer
 doing:Bool
 hops:Int
 tries:Int
 due:Int
 deriving DecidableEq
def eJob(x:Job):AV:=.agg [vI x.id,vI x.kind,vI x.bit,vT x.key,vT x.val,vU x.target,vU x.via.id,vH x.via.addr,vU x.at_.id,vH x.at_.addr,vF x.doing,vI x.hops,vI x.tries,vI x.due]
theorem Job.ext'{a b:Job}:a=b<->a.id=b.id/\a.kind=b.kind/\a.bit=b.bit/\a.key=b.key/\a.val=b.val/\a.target=b.target/\a.via=b.via/\a.at_=b.at_/\a.doing=b.doing/\a.hops=b.hops/\a.tries=b.tries/\a.due=b.due:=by cases a;cases b;simp
instance :Inj eJob:=⟨fun a b h=>by
 obtain⟨_,_,_,_,_,_,⟨_,_⟩,⟨_,_⟩,_,_,_,_⟩:=a;obtain⟨_,_,_,_,_,_,⟨_,_⟩,⟨_,_⟩,_,_,_,_⟩:=b
 simp only[eJob,AV.agg.injEq,yaY,AV.sc.injEq,ybi,ybe,ya4,AV.lit.injEq,zdk,and_true,true_and,and_assoc]at h
 simp_all⟩
theorem zFB{a b:Job}:eJob a=eJob b<->a=b:=⟨Inj.inj a b,fun h=>by rw[h]⟩
def cJob(x:Job):List AV:=[vI x.id,vI x.kind,vI x.bit,vT x.key,vT x.val,vU x.target,vU x.via.id,vH x.via.addr,vU x.at_.id,vH x.at_.addr,vF x.doing,vI x.hops,vI x.tries,vI x.due]
theorem zyb{a b:Job}:cJob a=cJob b<->a=b:=⟨fun h=>Inj.inj (e:=eJob) a b (congrArg AV.agg h),fun h=>by rw[h]⟩
theorem zFm{a b:Job}{l l':List AV}:capp (cJob a) l=capp (cJob b) l'<->a=b/\l=l':=⟨fun h=>by rw[zju,zju]at h;obtain⟨h1,h2⟩:=List.append_inj h rfl;exact⟨zyb.1 h1,h2⟩,fun h=>by rw[h.1,h.2]⟩
structure Result where
 job:Int
 kind:Int
 key:ByteArray
 val:ByteArray
 has:Bool
 err:Int
 deriving DecidableEq
def zaf(x:Result):AV:=.agg [vI x.job,vI x.kind,vT x.key,vT x.val,vF x.has,vI x.err]
theorem Result.ext'{a b:Result}:a=b<->a.job=b.job/\a.kind=b.kind/\a.key=b.key/\a.val=b.val/\a.has=b.has/\a.err=b.err:=by cases a;cases b;simp
instance :Inj zaf:=⟨fun a b h=>by
 obtain⟨_,_,_,_,_,_⟩:=a;obtain⟨_,_,_,_,_,_⟩:=b
 simp only[zaf,AV.agg.injEq,yaY,AV.sc.injEq,ybi,ybe,ya4,AV.lit.injEq,zdk,and_true,true_and,and_assoc]at h
 simp only[Result.mk.injEq,and_assoc];simpa only[Result.mk.injEq,and_assoc]using h⟩
theorem zzR{a b:Result}:zaf a=zaf b<->a=b:=⟨Inj.inj a b,fun h=>by rw[h]⟩
structure Node where
 me:Peer
 clock:Int
 joined:Bool
 pred:List Entry
 list:List Entry
 fingers:List Finger
 store:List Pair
 pends:List Pend
 jobs:List Job
 results:List Result
 rid:Int
 jobID:Int
 nextBit:Int
 deriving DecidableEq
def zaK(x:Node):AV:=.agg [vU x.me.id,vH x.me.addr,vI x.clock,vF x.joined,.lit 55 false (yac zab x.pred),.lit 55 false (yac zab x.list),.lit 82 false (yac zaa x.fingers),.lit 76 false (yac zag x.store),.lit 36 false (yac zaI x.pends),.lit 57 false (yac eJob x.jobs),.lit 74 false (yac zaf x.results),vW x.rid,vI x.jobID,vI x.nextBit]
theorem Node.ext'{a b:Node}:a=b<->a.me=b.me/\a.clock=b.clock/\a.joined=b.joined/\a.pred=b.pred/\a.list=b.list/\a.fingers=b.fingers/\a.store=b.store/\a.pends=b.pends/\a.jobs=b.jobs/\a.results=b.results/\a.rid=b.rid/\a.jobID=b.jobID/\a.nextBit=b.nextBit:=by cases a;cases b;simp
instance :Inj zaK:=⟨fun a b h=>by
 obtain⟨⟨_,_⟩,_,_,_,_,_,_,_,_,_,_,_,_⟩:=a;obtain⟨⟨_,_⟩,_,_,_,_,_,_,_,_,_,_,_,_⟩:=b
 simp only[zaK,AV.agg.injEq,yaY,AV.sc.injEq,ybi,ybe,ya4,AV.lit.injEq,zdk,and_true,true_and,and_assoc]at h
 simp_all⟩
theorem zD2{a b:Node}:zaK a=zaK b<->a=b:=⟨Inj.inj a b,fun h=>by rw[h]⟩
def zal(x:Node):List AV:=[vU x.me.id,vH x.me.addr,vI x.clock,vF x.joined,.lit 55 false (yac zab x.pred),.lit 55 false (yac zab x.list),.lit 82 false (yac zaa x.fingers),.lit 76 false (yac zag x.store),.lit 36 false (yac zaI x.pends),.lit 57 false (yac eJob x.jobs),.lit 74 false (yac zaf x.results),vW x.rid,vI x.jobID,vI x.nextBit]
theorem zwK{a b:Node}:zal a=zal b<->a=b:=⟨fun h=>Inj.inj (e:=zaK) a b (congrArg AV.agg h),fun h=>by rw[h]⟩
theorem zDS{a b:Node}{l l':List AV}:capp (zal a) l=capp (zal b) l'<->a=b/\l=l':=⟨fun h=>by rw[zju,zju]at h;obtain⟨h1,h2⟩:=List.append_inj h rfl;exact⟨zwK.1 h1,h2⟩,fun h=>by rw[h.1,h.2]⟩
def zaL(x:Node)(u6:AV):List AV:=[vU x.me.id,vH x.me.addr,vI x.clock,vF x.joined,.lit 55 false (yac zab x.pred),.lit 55 false (yac zab x.list),u6,.lit 76 false (yac zag x.store),.lit 36 false (yac zaI x.pends),.lit 57 false (yac eJob x.jobs),.lit 74 false (yac zaf x.results),vW x.rid,vI x.jobID,vI x.nextBit]
theorem zn1{a b:Node}{u6 v6:AV}:zaL a u6=zaL b v6<->(a.me=b.me/\a.clock=b.clock/\a.joined=b.joined/\a.pred=b.pred/\a.list=b.list/\a.store=b.store/\a.pends=b.pends/\a.jobs=b.jobs/\a.results=b.results/\a.rid=b.rid/\a.jobID=b.jobID/\a.nextBit=b.nextBit)/\u6=v6:=by
 obtain⟨⟨_,_⟩,_,_,_,_,_,_,_,_,_,_,_,_⟩:=a;obtain⟨⟨_,_⟩,_,_,_,_,_,_,_,_,_,_,_,_⟩:=b;simp only[zaL,AV.agg.injEq,yaY,AV.sc.injEq,ybi,ybe,ya4,AV.lit.injEq,zdk,and_true,true_and,and_assoc];constructor<;>(intro h;simp_all)
theorem zzI{a b:Node}{u6 v6:AV}{l l':List AV}:capp (zaL a u6) l=capp (zaL b v6) l'<->((a.me=b.me/\a.clock=b.clock/\a.joined=b.joined/\a.pred=b.pred/\a.list=b.list/\a.store=b.store/\a.pends=b.pends/\a.jobs=b.jobs/\a.results=b.results/\a.rid=b.rid/\a.jobID=b.jobID/\a.nextBit=b.nextBit)/\u6=v6)/\l=l':=⟨fun h=>by rw[zju,zju]at h;obtain⟨h1,h2⟩:=List.append_inj h rfl;exact⟨zn1.1 h1,h2⟩,fun h=>by rw[zn1.2 h.1,h.2]⟩
theorem zB4{a b:Node}{k6 g6:Nat}{l l':List AV}:(capp (zal a) l=capp (zaL b (.sl k6 g6)) l')<->False:=by simp[zal,zaL,capp]
theorem zB5{a b:Node}{k6 g6:Nat}{l l':List AV}:(capp (zaL b (.sl k6 g6)) l'=capp (zal a) l)<->False:=by simp[zal,zaL,capp]
structure Msg where
 kind:Int
 rid:Int
 code:Int
 has:Bool
 id:Int
 key:ByteArray
 val:ByteArray
 peer:Peer
 peers:List Peer
 pairs:List Pair
 deriving DecidableEq
def eMsg(x:Msg):AV:=.agg [vI x.kind,vW x.rid,vB x.code,vF x.has,vU x.id,vT x.key,vT x.val,vU x.peer.id,vH x.peer.addr,.lit 25 false (yac zad x.peers),.lit 76 false (yac zag x.pairs)]
theorem Msg.ext'{a b:Msg}:a=b<->a.kind=b.kind/\a.rid=b.rid/\a.code=b.code/\a.has=b.has/\a.id=b.id/\a.key=b.key/\a.val=b.val/\a.peer=b.peer/\a.peers=b.peers/\a.pairs=b.pairs:=by cases a;cases b;simp
instance :Inj eMsg:=⟨fun a b h=>by
 obtain⟨_,_,_,_,_,_,_,⟨_,_⟩,_,_⟩:=a;obtain⟨_,_,_,_,_,_,_,⟨_,_⟩,_,_⟩:=b
 simp only[eMsg,AV.agg.injEq,yaY,AV.sc.injEq,ybi,ybe,ya4,AV.lit.injEq,zdk,and_true,true_and,and_assoc]at h
 simp_all⟩
theorem zFC{a b:Msg}:eMsg a=eMsg b<->a=b:=⟨Inj.inj a b,fun h=>by rw[h]⟩
def cMsg(x:Msg):List AV:=[vI x.kind,vW x.rid,vB x.code,vF x.has,vU x.id,vT x.key,vT x.val,vU x.peer.id,vH x.peer.addr,.lit 25 false (yac zad x.peers),.lit 76 false (yac zag x.pairs)]
theorem zyc{a b:Msg}:cMsg a=cMsg b<->a=b:=⟨fun h=>Inj.inj (e:=eMsg) a b (congrArg AV.agg h),fun h=>by rw[h]⟩
theorem zFn{a b:Msg}{l l':List AV}:capp (cMsg a) l=capp (cMsg b) l'<->a=b/\l=l':=⟨fun h=>by rw[zju,zju]at h;obtain⟨h1,h2⟩:=List.append_inj h rfl;exact⟨zyc.1 h1,h2⟩,fun h=>by rw[h.1,h.2]⟩
structure Out where
 to_:Peer
 msg:Msg
 deriving DecidableEq
def eOut(x:Out):AV:=.agg [vU x.to_.id,vH x.to_.addr,vI x.msg.kind,vW x.msg.rid,vB x.msg.code,vF x.msg.has,vU x.msg.id,vT x.msg.key,vT x.msg.val,vU x.msg.peer.id,vH x.msg.peer.addr,.lit 25 false (yac zad x.msg.peers),.lit 76 false (yac zag x.msg.pairs)]
theorem Out.ext'{a b:Out}:a=b<->a.to_=b.to_/\a.msg=b.msg:=by cases a;cases b;simp
instance :Inj eOut:=⟨fun a b h=>by
 obtain⟨⟨_,_⟩,⟨_,_,_,_,_,_,_,⟨_,_⟩,_,_⟩⟩:=a;obtain⟨⟨_,_⟩,⟨_,_,_,_,_,_,_,⟨_,_⟩,_,_⟩⟩:=b
 simp only[eOut,AV.agg.injEq,yaY,AV.sc.injEq,ybi,ybe,ya4,AV.lit.injEq,zdk,and_true,true_and,and_assoc]at h
 simp_all⟩
theorem zFD{a b:Out}:eOut a=eOut b<->a=b:=⟨Inj.inj a b,fun h=>by rw[h]⟩
structure Work_work where
 node:Node
 job:Job
 out:List Out
 deriving DecidableEq
def zh0(x:Work_work):AV:=.agg [vU x.node.me.id,vH x.node.me.addr,vI x.node.clock,vF x.node.joined,.lit 55 false (yac zab x.node.pred),.lit 55 false (yac zab x.node.list),.lit 82 false (yac zaa x.node.fingers),.lit 76 false (yac zag x.node.store),.lit 36 false (yac zaI x.node.pends),.lit 57 false (yac eJob x.node.jobs),.lit 74 false (yac zaf x.node.results),vW x.node.rid,vI x.node.jobID,vI x.node.nextBit,vI x.job.id,vI x.job.kind,vI x.job.bit,vT x.job.key,vT x.job.val,vU x.job.target,vU x.job.via.id,vH x.job.via.addr,vU x.job.at_.id,vH x.job.at_.addr,vF x.job.doing,vI x.job.hops,vI x.job.tries,vI x.job.due,.lit 78 false (yac eOut x.out)]
theorem Work_work.ext'{a b:Work_work}:a=b<->a.node=b.node/\a.job=b.job/\a.out=b.out:=by cases a;cases b;simp
instance :Inj zh0:=⟨fun a b h=>by
 obtain⟨⟨⟨_,_⟩,_,_,_,_,_,_,_,_,_,_,_,_⟩,⟨_,_,_,_,_,_,⟨_,_⟩,⟨_,_⟩,_,_,_,_⟩,_⟩:=a;obtain⟨⟨⟨_,_⟩,_,_,_,_,_,_,_,_,_,_,_,_⟩,⟨_,_,_,_,_,_,⟨_,_⟩,⟨_,_⟩,_,_,_,_⟩,_⟩:=b
 simp only[zh0,AV.agg.injEq,yaY,AV.sc.injEq,ybi,ybe,ya4,AV.lit.injEq,zdk,and_true,true_and,and_assoc]at h
 simp_all⟩
theorem zv0{a b:Work_work}:zh0 a=zh0 b<->a=b:=⟨Inj.inj a b,fun h=>by rw[h]⟩
theorem inj_{p:Prop} (q:p:=by
 first|rfl|((try simp only[Prod.mk.injEq,St.mk.injEq,List.cons.injEq,AV.sc.injEq,AV.agg.injEq,AV.tup.injEq,AV.lit.injEq,AV.sl.injEq,AV.sub.injEq,AV.rptr.injEq,AV.lptr.injEq,AV.bptr.injEq,AV.fn.injEq,Ent.box.injEq,Ent.row.injEq,Ent.it.injEq,Value.int.injEq,Value.bool.injEq,Value.string.injEq,zJc,zdk,zKK,and_true,true_and,and_assoc,reduceCtorEq,false_and,and_false,zD4,zB8,zzQ,zD3,zD5,zFB,zzR,zD2,zFC,zFD,zv0,zyb,zFm,zwK,zDS,zyc,zFn,zn1,zzI,zB4,zB5]at h)<;>simp_all[Node.ext'])):p:=q
theorem ij_{p:Prop} (q:p:=by
 try intro(γ:Nat->Nat) (δ:Nat->Nat)
 simp only[Prod.forall,Sum.forall]
 repeat' first|apply And.intro |intro
 all_goals (rename_i h;exact inj_)):p:=q
abbrev IF_:Ifc:=⟨Ops.std,(lim F pr).call,(lim F pr).loop,pr,(lim F pr).seg⟩
theorem fin_{p:Prop} (h:p:=by
 try dsimp only[bd,gam,xlen,xget,xsub,zaA,zck,ztt,xsapp,zqR,xsofb,xcut,xsrt,eL,zad,zab,zaa,zag,zaI,eJob,zaf,zaK,eMsg,eOut,zh0,cJob,zal,cMsg,zaL,capp]at *
 try simp only[zIx,zIA,zIz,zIy,zCr,List.map_cons,List.map_nil]at *
 try dsimp only[zad,zab,zaa,zag,zaI,eJob,zaf,zaK,eMsg,eOut,zh0,cJob,zal,cMsg,zaL,capp]at *
 try simp only[List.map_cons,List.map_nil]at *
 unfold IF_;generalize (lim F pr).call=call at *
 generalize (lim F pr).loop=loop at *
 generalize (lim F pr).seg=seg at *
 try generalize List.map (eL 76 zag)=m0 at *
 try generalize List.map zab=m1 at *
 try generalize List.map zaa=m2 at *
 try generalize List.map eJob=m3 at *
 try generalize List.map eOut=m4 at *
 try generalize List.map zag=m5 at *
 try generalize List.map zad=m6 at *
 try generalize List.map zaI=m7 at *
 try generalize List.map zaf=m8 at *
 try generalize List.map vT=m9 at *
 generalize Ops.std=o at *
 cases o
 try dsimp only at *
 repeat ((try cbv);first|rw[h0]|rw[h1]|rw[h2]|rw[h3]|rw[h4]|rw[h5]|rw[h6]|rw[h7]|rw[h8]|rw[h9]|rw[h10]|rw[h11]|rw[h12]|rw[h13]|rw[h14]|rw[h15]|rw[h16]|rw[h17]|rw[h18]|rw[h19]|rw[h20]|rw[h21]|rw[h22]|rw[h23]|rw[h24]|rw[h25]|rw[h26]|rw[h27]|rw[h28]|rw[h29]|rw[h30]|rw[h31]|rw[h32]|rw[h33]|rw[h34]|rw[h35]|rw[h36]|rw[h37]|rw[h38]|rw[h39]|rw[h40]|rw[h41]|rw[h42]|rw[h43]|rw[h44]|rw[h45]|rw[h46]|rw[h47]|rw[h48]|rw[h49]|rw[h50]|rw[h51]|rw[h52]|rw[h53]|rw[h54]|rw[h55]|rw[h56]|rw[h57]|rw[h58]|rw[h59]|rw[h60]|rw[h61]|rw[h62]|rw[h63]|rw[h64]|rw[h65]|rw[h66]|rw[h67]|rw[h68]|rw[h69]|rw[h70])
 try cbv):p:=h
def znV(n:Node)(p:Pend)(l:List Peer):Option (Bool):=ask (R1 vF) ((lim F pr).call 4 [zaK n,zaI p,.lit 25 false (yac zad l)] [])
def zsN(n:Node):Option (Bool):=ask (R1 vF) ((lim F pr).call 12 [zaK n] [])
def znW:Option (Bool):=ask (R1 vF) ((lim F pr).call 14 [] [])
def zmM(n:Node)(p:Pend):Option ((Node×(List Out))):=ask (R2 zaK (eL 78 eOut)) ((lim F pr).call 20 [zaK n,zaI p] [])
def zqI(n:Node)(p:Pend):Option ((Node×(List Out))):=ask (R2 zaK (eL 78 eOut)) ((lim F pr).call 21 [zaK n,zaI p] [])
abbrev zn8:=(Int×Int×Int×Bool×(List Entry)×(List Entry)×(List Finger)×(List Pair)×(List Pend)×(List Job)×(List Result)×Int×Int×Int)
def zbC:zn8->AV×Store
 |(a0,a1,a2,a3,a4,a5,a6,a7,a8,a9,a10,a11,a12,a13)=>(.agg [vU a0,vH a1,vI a2,vF a3,.sl 0 0,.sl 1 0,.sl 2 0,.sl 3 0,.sl 4 0,.sl 5 0,.sl 6 0,vW a11,vI a12,vI a13],[.row 55 0 false (yac zab a4),.row 55 0 false (yac zab a5),.row 82 0 false (yac zaa a6),.row 76 0 false (yac zag a7),.row 36 0 false (yac zaI a8),.row 57 0 false (yac eJob a9),.row 74 0 false (yac zaf a10)])
instance :Inj zbC:=⟨by unfold zbC;exact ij_⟩
def zdJ(n:Node):Option (zn8):=ask zbC ((lim F pr).call 15 [zaK n] [])
def zff(zau:Int)(zaj:Int):Bool->AV×Store
 |a0=>(vF a0,[.box 25 [vU zau,vH zaj]])
instance {zau zaj}:Inj (zff zau zaj):=⟨by unfold zff;exact ij_⟩
def zmK(x:Entry)(zau:Int)(zaj:Int):Option (Bool):=ask (zff zau zaj) ((lim F pr).call 71 [zab x,.bptr 0 0] [.box 25 [vU zau,vH zaj]])
def zcD(zau:Int)(zaj:Int):Int->AV×Store
 |a0=>(vI a0,[.box 25 [vU zau,vH zaj]])
instance {zau zaj}:Inj (zcD zau zaj):=⟨by unfold zcD;exact ij_⟩
def zin(s:List Entry)(zau:Int)(zaj:Int):Option (Int):=ask (zcD zau zaj) ((lim F pr).call 77 [.lit 55 false (yac zab s),.fn 71 [.bptr 0 0]] [.box 25 [vU zau,vH zaj]])
def zcm(zau:Int)(zaj:Int):Bool->AV×Store
 |a0=>(vF a0,[.box 25 [vU zau,vH zaj]])
instance {zau zaj}:Inj (zcm zau zaj):=⟨by unfold zcm;exact ij_⟩
def zha(s:List Entry)(zau:Int)(zaj:Int):Option (Bool):=ask (zcm zau zaj) ((lim F pr).call 70 [.lit 55 false (yac zab s),.fn 71 [.bptr 0 0]] [.box 25 [vU zau,vH zaj]])
def zt9(l:List Pend)(why:Int)(addr:Int):Option (Bool):=ask (R1 vF) ((lim F pr).call 72 [.lit 36 false (yac zaI l),vI why,vH addr] [])
def zjh(n:Node)(to_:Peer)(m:Msg)(why:Int)(job:Int):Option ((Node×(List Out))):=ask (R2 zaK (eL 78 eOut)) ((lim F pr).call 73 [zaK n,zad to_,eMsg m,vI why,vI job] [])
def zhr(γ:Nat->Nat):(Node×(List Out))->AV×Store
 |(a0,a1)=>(.tup [zaK a0,.sl 0 (γ 0)],[.row 78 (γ 0) false (yac eOut a1)])
instance :InjS zhr:=⟨by unfold zhr;exact ij_⟩
def zpZ(n:Node)(l:List Peer):Option ((Node×(List Out))):=asks (fun γ=>(lim F pr).call 22 [zaK n,.lit 25 false (yac zad l)] []) zhr
def zwq(l:List Pend)(why:Int)(addr:Int):Option (Bool):=ask (R1 vF) ((lim F pr).call 74 [.lit 36 false (yac zaI l),vI why,vH addr] [])
def zh7(n:Node)(to_:Peer)(m:Msg)(why:Int)(job:Int):Option ((Node×(List Out))):=ask (R2 zaK (eL 78 eOut)) ((lim F pr).call 75 [zaK n,zad to_,eMsg m,vI why,vI job] [])
def zj5(γ:Nat->Nat):(Node×(List Out))->AV×Store
 |(a0,a1)=>(.tup [zaK a0,.sl 0 (γ 0)],[.row 78 (γ 0) false (yac eOut a1)])
instance :InjS zj5:=⟨by unfold zj5;exact ij_⟩
def zun(n:Node)(l:List Peer):Option ((Node×(List Out))):=asks (fun γ=>(lim F pr).call 23 [zaK n,.lit 25 false (yac zad l)] []) zj5
def zkT(a:Node)(b:Node):Option (Bool):=ask (R1 vF) ((lim F pr).call 18 [zaK a,zaK b] [])
def zkS(a:List Out)(b:List Out):Option (Bool):=ask (R1 vF) ((lim F pr).call 19 [.lit 78 false (yac eOut a),.lit 78 false (yac eOut b)] [])
def zsM(l:List Pair):Option (Bool):=ask (R1 vF) ((lim F pr).call 42 [.lit 76 false (yac zag l)] [])
def zp9(l:List Entry)(addr:Int):Option ((List Entry)):=ask (R1 (eL 55 zab)) ((lim F pr).call 61 [.lit 55 false (yac zab l),vH addr] [])
def zlc(l:List Entry)(addr:Int):Option (Int):=ask (R1 vI) ((lim F pr).call 25 [.lit 55 false (yac zab l),vH addr] [])
def zpR(l:List Finger)(addr:Int):Option ((List Finger)):=ask (R1 (eL 82 zaa)) ((lim F pr).call 62 [.lit 82 false (yac zaa l),vH addr] [])
def zp8(l:List Entry)(addr:Int):Option ((List Entry)):=ask (K1 55 zab) ((lim F pr).call 63 [.lit 55 false (yac zab l),vH addr] [])
def zgV(n:Node)(id:Int)(why:Int):Option ((Node×(List Out))):=ask (R2 zaK (eL 78 eOut)) ((lim F pr).call 64 [zaK n,vI id,vI why] [])
def zud(l:List Entry)(addr:Int):Option ((List Entry)):=ask (R1 (eL 55 zab)) ((lim F pr).call 65 [.lit 55 false (yac zab l),vH addr] [])
def zlF(l:List Entry)(addr:Int):Option (Int):=ask (R1 vI) ((lim F pr).call 66 [.lit 55 false (yac zab l),vH addr] [])
def zue(l:List Finger)(addr:Int):Option ((List Finger)):=ask (R1 (eL 82 zaa)) ((lim F pr).call 67 [.lit 82 false (yac zaa l),vH addr] [])
def zuc(l:List Entry)(addr:Int):Option ((List Entry)):=ask (R1 (eL 55 zab)) ((lim F pr).call 68 [.lit 55 false (yac zab l),vH addr] [])
def zia(n:Node)(id:Int)(why:Int):Option ((Node×(List Out))):=ask (R2 zaK (eL 78 eOut)) ((lim F pr).call 69 [zaK n,vI id,vI why] [])
def zht(b0:Int)(b1:Int):Bool->AV×Store
 |a0=>(vF a0,[.box 3 [vI b0],.box 23 [vH b1]])
instance {b0 b1}:Inj (zht b0 b1):=⟨by unfold zht;exact ij_⟩
def zqc(p:Pend)(b0:Int)(b1:Int):Option (Bool):=ask (zht b0 b1) ((lim F pr).call 138 [zaI p,.bptr 0 0,.bptr 1 0] [.box 3 [vI b0],.box 23 [vH b1]])
def zdT(b0:Int)(b1:Int):Int->AV×Store
 |a0=>(vI a0,[.box 3 [vI b0],.box 23 [vH b1]])
instance {b0 b1}:Inj (zdT b0 b1):=⟨by unfold zdT;exact ij_⟩
def zkr(s:List Pend)(b0:Int)(b1:Int):Option (Int):=ask (zdT b0 b1) ((lim F pr).call 180 [.lit 36 false (yac zaI s),.fn 138 [.bptr 0 0,.bptr 1 0]] [.box 3 [vI b0],.box 23 [vH b1]])
def zcz(b0:Int)(b1:Int):Bool->AV×Store
 |a0=>(vF a0,[.box 3 [vI b0],.box 23 [vH b1]])
instance {b0 b1}:Inj (zcz b0 b1):=⟨by unfold zcz;exact ij_⟩
def zl9(s:List Pend)(b0:Int)(b1:Int):Option (Bool):=ask (zcz b0 b1) ((lim F pr).call 137 [.lit 36 false (yac zaI s),.fn 138 [.bptr 0 0,.bptr 1 0]] [.box 3 [vI b0],.box 23 [vH b1]])
def zt8(m:Msg):Option (Msg):=ask (R1 eMsg) ((lim F pr).call 139 [eMsg m] [])
def zua(n:Node):Option (Int):=ask (R1 vI) ((lim F pr).call 79 [zaK n] [])
def zwr(n:Node):Option (Int):=ask (R1 vI) ((lim F pr).call 83 [zaK n] [])
def zqp(a:List Entry)(b:List Entry):Option (Bool):=ask (R1 vF) ((lim F pr).call 55 [.lit 55 false (yac zab a),.lit 55 false (yac zab b)] [])
def zug(a:List Finger)(b:List Finger):Option (Bool):=ask (R1 vF) ((lim F pr).call 56 [.lit 82 false (yac zaa a),.lit 82 false (yac zaa b)] [])
def znG(a:List Pair)(b:List Pair):Option (Bool):=ask (R1 vF) ((lim F pr).call 57 [.lit 76 false (yac zag a),.lit 76 false (yac zag b)] [])
def zsp(a:List Pend)(b:List Pend):Option (Bool):=ask (R1 vF) ((lim F pr).call 58 [.lit 36 false (yac zaI a),.lit 36 false (yac zaI b)] [])
def zuh(a:Node)(b:Node):Option (Bool):=ask (R1 vF) ((lim F pr).call 59 [zaK a,zaK b] [])
def zub(a:Msg)(b:Msg):Option (Bool):=ask (R1 vF) ((lim F pr).call 60 [eMsg a,eMsg b] [])
def ze0(γ:Nat->Nat):(List Entry)->AV×Store
 |a0=>(.sl 0 (γ 0),[.row 55 (γ 0) false (yac zab a0)])
instance :InjS ze0:=⟨by unfold ze0;exact ij_⟩
def zmt(i:Int)(j:Int)(r0:List Entry):Option ((List Entry)):=asks (fun γ=>(lim F pr).call 132 [.sl 0 (γ 0),vI i,vI j] [.row 55 (γ 0) false (yac zab r0)]) ze0
def zev(b0:Int):Bool->AV×Store
 |a0=>(vF a0,[.box 23 [vH b0]])
instance {b0}:Inj (zev b0):=⟨by unfold zev;exact ij_⟩
def ziO(x:Entry)(b0:Int):Option (Bool):=ask (zev b0) ((lim F pr).call 78 [zab x,.bptr 0 0] [.box 23 [vH b0]])
def zcB(b0:Int):Int->AV×Store
 |a0=>(vI a0,[.box 23 [vH b0]])
instance {b0}:Inj (zcB b0):=⟨by unfold zcB;exact ij_⟩
def zil(s:List Entry)(b0:Int):Option (Int):=ask (zcB b0) ((lim F pr).call 77 [.lit 55 false (yac zab s),.fn 78 [.bptr 0 0]] [.box 23 [vH b0]])
def zdM(b0:Int):Bool->AV×Store
 |a0=>(vF a0,[.box 23 [vH b0]])
instance {b0}:Inj (zdM b0):=⟨by unfold zdM;exact ij_⟩
def zjI(f:Finger)(b0:Int):Option (Bool):=ask (zdM b0) ((lim F pr).call 134 [zaa f,.bptr 0 0] [.box 23 [vH b0]])
def zcp(r0:List Finger)(b1:Int)(γ:Nat->Nat):Int->AV×Store
 |a0=>(vI a0,[.row 82 (γ 0) false (yac zaa r0),.box 23 [vH b1]])
instance {r0 b1}:InjS (zcp r0 b1):=⟨by unfold zcp;exact ij_⟩
def zhf(r0:List Finger)(b1:Int):Option (Int):=askg (fun γ=>(lim F pr).call 219 [.sl 0 (γ 0),.fn 134 [.bptr 1 0]] [.row 82 (γ 0) false (yac zaa r0),.box 23 [vH b1]]) (zcp r0 b1)
def zb9(b1:Int)(γ:Nat->Nat):(List Finger)->AV×Store
 |a0=>(.sl 0 (γ 0),[.row 82 (γ 0) false (yac zaa a0),.box 23 [vH b1]])
instance {b1}:InjS (zb9 b1):=⟨by unfold zb9;exact ij_⟩
def zko(r0:List Finger)(b1:Int):Option ((List Finger)):=asks (fun γ=>(lim F pr).call 133 [.sl 0 (γ 0),.fn 134 [.bptr 1 0]] [.row 82 (γ 0) false (yac zaa r0),.box 23 [vH b1]]) (zb9 b1)
def zdN(b0:Int):Bool->AV×Store
 |a0=>(vF a0,[.box 23 [vH b0]])
instance {b0}:Inj (zdN b0):=⟨by unfold zdN;exact ij_⟩
def zfg(x:Entry)(b0:Int):Option (Bool):=ask (zdN b0) ((lim F pr).call 136 [zab x,.bptr 0 0] [.box 23 [vH b0]])
def zcC(b0:Int):Int->AV×Store
 |a0=>(vI a0,[.box 23 [vH b0]])
instance {b0}:Inj (zcC b0):=⟨by unfold zcC;exact ij_⟩
def zim(s:List Entry)(b0:Int):Option (Int):=ask (zcC b0) ((lim F pr).call 77 [.lit 55 false (yac zab s),.fn 136 [.bptr 0 0]] [.box 23 [vH b0]])
def zcW(b1:Int)(γ:Nat->Nat):(List Entry)->AV×Store
 |a0=>(.sl 0 (γ 0),[.row 55 (γ 0) false (yac zab a0),.box 23 [vH b1]])
instance {b1}:InjS (zcW b1):=⟨by unfold zcW;exact ij_⟩
def zja(r0:List Entry)(b1:Int):Option ((List Entry)):=asks (fun γ=>(lim F pr).call 135 [.sl 0 (γ 0),.fn 136 [.bptr 1 0]] [.row 55 (γ 0) false (yac zab r0),.box 23 [vH b1]]) (zcW b1)
def zlA(l:List Job)(id:Int):Option (Int):=ask (R1 vI) ((lim F pr).call 198 [.lit 57 false (yac eJob l),vI id] [])
def zlH(γ:Nat->Nat):(Bool×Node×Job×(List Out))->AV×Store
 |(a0,a1,a2,a3)=>(.tup [.bptr 0 0,vF a0],[.box 133 (capp (zaL a1 (.sl 1 (γ 1))) (capp (cJob a2) ([.sl 2 (γ 2)]))),.row 82 (γ 1) false (yac zaa a1.fingers),.row 78 (γ 2) false (yac eOut a3)])
instance :InjS zlH:=⟨by unfold zlH;exact ij_⟩
def zwG(n:Node)(id:Int):Option ((Bool×Node×Job×(List Out))):=asks (fun γ=>(lim F pr).call 117 [zaK n,vI id] []) zlH
abbrev zpW:=(Int×Int×Int×Bool×(List Entry)×(List Entry)×(List Finger)×(List Pair)×(List Pend)×(List Job)×(List Result)×Int×Int×Int)
def zh2:zpW->AV×Store
 |(a0,a1,a2,a3,a4,a5,a6,a7,a8,a9,a10,a11,a12,a13)=>(.agg [vU a0,vH a1,vI a2,vF a3,.sl 0 0,.sl 1 0,.sl 2 0,.sl 3 0,.sl 4 0,.sl 5 0,.sl 6 0,vW a11,vI a12,vI a13],[.row 55 0 false (yac zab a4),.row 55 0 false (yac zab a5),.row 82 0 false (yac zaa a6),.row 76 0 false (yac zag a7),.row 36 0 false (yac zaI a8),.row 57 0 false (yac eJob a9),.row 74 0 false (yac zaf a10)])
instance :Inj zh2:=⟨by unfold zh2;exact ij_⟩
def zpV(n:Node)(j:Job):Option (zpW):=ask zh2 ((lim F pr).call 257 [zaK n,eJob j] [])
def zdp(b0_job:Job)(r2:List Out)(γ:Nat->Nat):(Node×(List Finger))->AV×Store
 |(a0,a1)=>(.tup [],[.box 133 (capp (zaL a0 (.sl 3 (γ 3))) ([vI b0_job.id,vI b0_job.kind,vI b0_job.bit,vT b0_job.key,vT b0_job.val,vU b0_job.target,vU b0_job.via.id,vH b0_job.via.addr,vU b0_job.at_.id,vH b0_job.at_.addr,vF b0_job.doing,vI b0_job.hops,vI b0_job.tries,vI b0_job.due,.sl 2 (γ 2)])),.row 82 (γ 1) true (yac zaa a1),.row 78 (γ 2) false (yac eOut r2),.row 82 (γ 3) false (yac zaa a0.fingers)])
instance {b0_job r2}:InjS (zdp b0_job r2):=⟨by unfold zdp;exact ij_⟩
def zel(b0_node:Node)(b0_job:Job)(r2:List Out):Option ((Node×(List Finger))):=asks (fun γ=>(lim F pr).call 199 [.bptr 0 0] [.box 133 (capp (zaL b0_node (.sl 1 (γ 1))) (capp (cJob b0_job) ([.sl 2 (γ 2)]))),.row 82 (γ 1) false (yac zaa b0_node.fingers),.row 78 (γ 2) false (yac eOut r2)]) (zdp b0_job r2)
def ziv(n:Node)(id:Int)(has:Bool)(val:ByteArray)(e_:Int):Option (Node):=ask (R1 zaK) ((lim F pr).call 210 [zaK n,vI id,vF has,vT val,vI e_] [])
def zbA(val:ByteArray)(b0_job:Job)(r2:List Out)(γ:Nat->Nat):(Node×(List Finger))->AV×Store
 |(a0,a1)=>(.tup [],[.box 133 (capp (zal a0) ([vI b0_job.id,vI b0_job.kind,vI b0_job.bit,vT b0_job.key,vT b0_job.val,vU b0_job.target,vU b0_job.via.id,vH b0_job.via.addr,vU b0_job.at_.id,vH b0_job.at_.addr,vF b0_job.doing,vI b0_job.hops,vI b0_job.tries,vI b0_job.due,.sl 2 (γ 2)])),.row 82 (γ 1) true (yac zaa a1),.row 78 (γ 2) false (yac eOut r2)])
instance {val b0_job r2}:InjS (zbA val b0_job r2):=⟨by unfold zbA;exact ij_⟩
def zb6(has:Bool)(val:ByteArray)(e_:Int)(b0_node:Node)(b0_job:Job)(r2:List Out):Option ((Node×(List Finger))):=asks (fun γ=>(lim F pr).call 123 [.bptr 0 0,vF has,vT val,vI e_] [.box 133 (capp (zaL b0_node (.sl 1 (γ 1))) (capp (cJob b0_job) ([.sl 2 (γ 2)]))),.row 82 (γ 1) false (yac zaa b0_node.fingers),.row 78 (γ 2) false (yac eOut r2)]) (zbA val b0_job r2)
def zb7(n:Node)(b0_job:Job)(γ:Nat->Nat):((List Finger)×(List Out))->AV×Store
 |(a0,a1)=>(.tup [],[.box 133 (capp (zal n) (capp (cJob b0_job) ([.sl 2 (γ 2)]))),.row 82 (γ 1) true (yac zaa a0),.row 78 (γ 2) false (yac eOut a1)])
instance {n b0_job}:InjS (zb7 n b0_job):=⟨by unfold zb7;exact ij_⟩
def zfN(n:Node)(out:List Out)(b0_node:Node)(b0_job:Job)(r2:List Out):Option (((List Finger)×(List Out))):=asks (fun γ=>(lim F pr).call 209 [.bptr 0 0,zaK n,.lit 78 false (yac eOut out)] [.box 133 (capp (zaL b0_node (.sl 1 (γ 1))) (capp (cJob b0_job) ([.sl 2 (γ 2)]))),.row 82 (γ 1) true (yac zaa b0_node.fingers),.row 78 (γ 2) false (yac eOut r2)]) (zb7 n b0_job)
abbrev zkh:=(Node×Job×(List Finger)×(List Out))
def zdn(γ:Nat->Nat):zkh->AV×Store
 |(a0,a1,a2,a3)=>(.tup [],[.box 133 (capp (zal a0) (capp (cJob a1) ([.sl 2 (γ 2)]))),.row 82 (γ 1) true (yac zaa a2),.row 78 (γ 2) false (yac eOut a3)])
instance :InjS zdn:=⟨by unfold zdn;exact ij_⟩
def zek(to_:Peer)(m:Msg)(why:Int)(b0_node:Node)(b0_job:Job)(r2:List Out):Option (zkh):=asks (fun γ=>(lim F pr).call 258 [.bptr 0 0,zad to_,eMsg m,vI why] [.box 133 (capp (zaL b0_node (.sl 1 (γ 1))) (capp (cJob b0_job) ([.sl 2 (γ 2)]))),.row 82 (γ 1) false (yac zaa b0_node.fingers),.row 78 (γ 2) false (yac eOut r2)]) zdn
abbrev zjo:=(Node×Job×(List Finger)×(List Out))
def zd3(γ:Nat->Nat):zjo->AV×Store
 |(a0,a1,a2,a3)=>(.tup [],[.box 133 (capp (zal a0) (capp (cJob a1) ([.sl 2 (γ 2)]))),.row 82 (γ 1) true (yac zaa a2),.row 78 (γ 2) false (yac eOut a3)])
instance :InjS zd3:=⟨by unfold zd3;exact ij_⟩
def zk5(to_:Peer)(b0_node:Node)(b0_job:Job)(r2:List Out):Option (zjo):=asks (fun γ=>(lim F pr).call 208 [.bptr 0 0,zad to_] [.box 133 (capp (zaL b0_node (.sl 1 (γ 1))) (capp (cJob b0_job) ([.sl 2 (γ 2)]))),.row 82 (γ 1) false (yac zaa b0_node.fingers),.row 78 (γ 2) false (yac eOut r2)]) zd3
def zqK(n:Node)(key:Int):Option ((Peer×(List Peer)×Bool)):=ask (R3 zad (eL 25 zad) vF) ((lim F pr).call 155 [zaK n,vU key] [])
def zcw(b0_job:Job)(r2:List Out)(γ:Nat->Nat):(Node×(List Finger))->AV×Store
 |(a0,a1)=>(.tup [],[.box 133 (capp (zaL a0 (.sl 3 (γ 3))) ([vI b0_job.id,vI b0_job.kind,vI b0_job.bit,vT b0_job.key,vT b0_job.val,vU b0_job.target,vU b0_job.via.id,vH b0_job.via.addr,vU b0_job.at_.id,vH b0_job.at_.addr,vF b0_job.doing,vI b0_job.hops,vI b0_job.tries,vI b0_job.due,.sl 2 (γ 2)])),.row 82 (γ 1) true (yac zaa a1),.row 78 (γ 2) false (yac eOut r2),.row 82 (γ 3) false (yac zaa a0.fingers)])
instance {b0_job r2}:InjS (zcw b0_job r2):=⟨by unfold zcw;exact ij_⟩
def zdo(b0_node:Node)(b0_job:Job)(r2:List Out):Option ((Node×(List Finger))):=asks (fun γ=>(lim F pr).call 199 [.bptr 0 0] [.box 133 (capp (zaL b0_node (.sl 1 (γ 1))) (capp (cJob b0_job) ([.sl 2 (γ 2)]))),.row 82 (γ 1) true (yac zaa b0_node.fingers),.row 78 (γ 2) false (yac eOut r2)]) (zcw b0_job r2)
abbrev zke:=(Node×Job×(List Finger)×(List Out))
def zdm(γ:Nat->Nat):zke->AV×Store
 |(a0,a1,a2,a3)=>(.tup [],[.box 133 (capp (zal a0) (capp (cJob a1) ([.sl 2 (γ 2)]))),.row 82 (γ 1) true (yac zaa a2),.row 78 (γ 2) false (yac eOut a3)])
instance :InjS zdm:=⟨by unfold zdm;exact ij_⟩
def zi8(to_:Peer)(b0_node:Node)(b0_job:Job)(r2:List Out):Option (zke):=asks (fun γ=>(lim F pr).call 201 [.bptr 0 0,zad to_] [.box 133 (capp (zaL b0_node (.sl 1 (γ 1))) (capp (cJob b0_job) ([.sl 2 (γ 2)]))),.row 82 (γ 1) false (yac zaa b0_node.fingers),.row 78 (γ 2) false (yac eOut r2)]) zdm
def zbH(b1_node:Node)(b1_job:Job)(r3:List Out)(γ:Nat->Nat):Bool->AV×Store
 |a0=>(vF a0,[.box 129 [.bptr 1 0],.box 133 (capp (zaL b1_node (.sl 2 (γ 2))) (capp (cJob b1_job) ([.sl 3 (γ 3)]))),.row 82 (γ 2) false (yac zaa b1_node.fingers),.row 78 (γ 3) false (yac eOut r3)])
instance {b1_node b1_job r3}:InjS (zbH b1_node b1_job r3):=⟨by unfold zbH;exact ij_⟩
def zdb(f:Finger)(b1_node:Node)(b1_job:Job)(r3:List Out):Option (Bool):=askg (fun γ=>(lim F pr).call 259 [zaa f,.bptr 0 0] [.box 129 [.bptr 1 0],.box 133 (capp (zaL b1_node (.sl 2 (γ 2))) (capp (cJob b1_job) ([.sl 3 (γ 3)]))),.row 82 (γ 2) false (yac zaa b1_node.fingers),.row 78 (γ 3) false (yac eOut r3)]) (zbH b1_node b1_job r3)
def zcX(b2_node:Node)(zaO:Job)(r3:List Out)(γ:Nat->Nat):Int->AV×Store
 |a0=>(vI a0,[.row 82 (γ 0) false (yac zaa b2_node.fingers),.box 129 [.bptr 2 0],.box 133 (capp (zaL b2_node (.sl 0 (γ 0))) (capp (cJob zaO) ([.sl 3 (γ 3)]))),.row 78 (γ 3) false (yac eOut r3)])
instance {b2_node zaO r3}:InjS (zcX b2_node zaO r3):=⟨by unfold zcX;exact ij_⟩
def zjb(b2_node:Node)(zaO:Job)(r3:List Out):Option (Int):=askg (fun γ=>(lim F pr).call 219 [.sl 0 (γ 0),.fn 259 [.bptr 1 0]] [.row 82 (γ 0) false (yac zaa b2_node.fingers),.box 129 [.bptr 2 0],.box 133 (capp (zaL b2_node (.sl 0 (γ 0))) (capp (cJob zaO) ([.sl 3 (γ 3)]))),.row 78 (γ 3) false (yac eOut r3)]) (zcX b2_node zaO r3)
abbrev zgX:=((List Finger)×Int×Int×Int×Bool×(List Entry)×(List Entry)×(List Pair)×(List Pend)×(List Job)×(List Result)×Int×Int×Int)
def zcA(zaO:Job)(r3:List Out)(γ:Nat->Nat):zgX->AV×Store
 |(a0,a1,a2,a3,a4,a5,a6,a7,a8,a9,a10,a11,a12,a13)=>(.sl 0 (γ 0),[.row 82 (γ 0) false (yac zaa a0),.box 129 [.bptr 2 0],.box 133 (vU a1::vH a2::vI a3::vF a4:: .lit 55 false (yac zab a5):: .lit 55 false (yac zab a6):: .sl 0 (γ 40):: .lit 76 false (yac zag a7):: .lit 36 false (yac zaI a8):: .lit 57 false (yac eJob a9):: .lit 74 false (yac zaf a10)::vW a11::vI a12::vI a13::(capp (cJob zaO) ([.sl 3 (γ 3)]))),.row 78 (γ 3) false (yac eOut r3)])
instance {zaO r3}:InjS (zcA zaO r3):=⟨by unfold zcA;exact ij_⟩
def zik(b2_node:Node)(zaO:Job)(r3:List Out):Option (zgX):=asks (fun γ=>(lim F pr).call 133 [.sl 0 (γ 0),.fn 259 [.bptr 1 0]] [.row 82 (γ 0) false (yac zaa b2_node.fingers),.box 129 [.bptr 2 0],.box 133 (capp (zaL b2_node (.sl 0 (γ 0))) (capp (cJob zaO) ([.sl 3 (γ 3)]))),.row 78 (γ 3) false (yac eOut r3)]) (zcA zaO r3)
def zrR(l:List Finger)(bit:Int)(p:Peer):Option ((List Finger)):=ask (R1 (eL 82 zaa)) ((lim F pr).call 260 [.lit 82 false (yac zaa l),vI bit,zad p] [])
def zbI(val:ByteArray)(b0_job:Job)(r1:List Out)(γ:Nat->Nat):Node->AV×Store
 |a0=>(.tup [],[.box 133 (capp (zal a0) ([vI b0_job.id,vI b0_job.kind,vI b0_job.bit,vT b0_job.key,vT b0_job.val,vU b0_job.target,vU b0_job.via.id,vH b0_job.via.addr,vU b0_job.at_.id,vH b0_job.at_.addr,vF b0_job.doing,vI b0_job.hops,vI b0_job.tries,vI b0_job.due,.sl 1 (γ 1)])),.row 78 (γ 1) false (yac eOut r1)])
instance {val b0_job r1}:InjS (zbI val b0_job r1):=⟨by unfold zbI;exact ij_⟩
def zde(has:Bool)(val:ByteArray)(e_:Int)(b0_node:Node)(b0_job:Job)(r1:List Out):Option (Node):=asks (fun γ=>(lim F pr).call 123 [.bptr 0 0,vF has,vT val,vI e_] [.box 133 (capp (zal b0_node) (capp (cJob b0_job) ([.sl 1 (γ 1)]))),.row 78 (γ 1) false (yac eOut r1)]) (zbI val b0_job r1)
def zdc(b0_job:Job)(r2:List Out)(γ:Nat->Nat):(Node×(List Finger))->AV×Store
 |(a0,a1)=>(.tup [],[.box 133 (capp (zal a0) ([vI b0_job.id,vI b0_job.kind,vI b0_job.bit,vT b0_job.key,vT b0_job.val,vU b0_job.target,vU b0_job.via.id,vH b0_job.via.addr,vU b0_job.at_.id,vH b0_job.at_.addr,vF b0_job.doing,vI b0_job.hops,vI b0_job.tries,vI b0_job.due,.sl 2 (γ 2)])),.row 82 (γ 1) true (yac zaa a1),.row 78 (γ 2) false (yac eOut r2)])
instance {b0_job r2}:InjS (zdc b0_job r2):=⟨by unfold zdc;exact ij_⟩
def zjm(owner:Peer)(mine:Bool)(b0_node:Node)(b0_job:Job)(r2:List Out):Option ((Node×(List Finger))):=asks (fun γ=>(lim F pr).call 202 [.bptr 0 0,zad owner,vF mine] [.box 133 (capp (zaL b0_node (.sl 1 (γ 1))) (capp (cJob b0_job) ([.sl 2 (γ 2)]))),.row 82 (γ 1) false (yac zaa b0_node.fingers),.row 78 (γ 2) false (yac eOut r2)]) (zdc b0_job r2)
def zqN(n:Node)(key:ByteArray)(val:ByteArray):Option ((Node×(List Out)×Int)):=ask (R3 zaK (eL 78 eOut) vI) ((lim F pr).call 243 [zaK n,vT key,vT val] [])
def zcv(val:ByteArray)(b0_job:Job)(r2:List Out)(γ:Nat->Nat):(Node×(List Finger))->AV×Store
 |(a0,a1)=>(.tup [],[.box 133 (capp (zal a0) ([vI b0_job.id,vI b0_job.kind,vI b0_job.bit,vT b0_job.key,vT b0_job.val,vU b0_job.target,vU b0_job.via.id,vH b0_job.via.addr,vU b0_job.at_.id,vH b0_job.at_.addr,vF b0_job.doing,vI b0_job.hops,vI b0_job.tries,vI b0_job.due,.sl 2 (γ 2)])),.row 82 (γ 1) true (yac zaa a1),.row 78 (γ 2) false (yac eOut r2)])
instance {val b0_job r2}:InjS (zcv val b0_job r2):=⟨by unfold zcv;exact ij_⟩
def zhV(has:Bool)(val:ByteArray)(e_:Int)(b0_node:Node)(b0_job:Job)(r2:List Out):Option ((Node×(List Finger))):=asks (fun γ=>(lim F pr).call 123 [.bptr 0 0,vF has,vT val,vI e_] [.box 133 (capp (zaL b0_node (.sl 1 (γ 1))) (capp (cJob b0_job) ([.sl 2 (γ 2)]))),.row 82 (γ 1) true (yac zaa b0_node.fingers),.row 78 (γ 2) false (yac eOut r2)]) (zcv val b0_job r2)
def zd4(b0_job:Job)(γ:Nat->Nat):(Node×(List Finger)×(List Out))->AV×Store
 |(a0,a1,a2)=>(.tup [],[.box 133 (capp (zal a0) ([vI b0_job.id,vI b0_job.kind,vI b0_job.bit,vT b0_job.key,vT b0_job.val,vU b0_job.target,vU b0_job.via.id,vH b0_job.via.addr,vU b0_job.at_.id,vH b0_job.at_.addr,vF b0_job.doing,vI b0_job.hops,vI b0_job.tries,vI b0_job.due,.sl 2 (γ 2)])),.row 82 (γ 1) true (yac zaa a1),.row 78 (γ 2) false (yac eOut a2)])
instance {b0_job}:InjS (zd4 b0_job):=⟨by unfold zd4;exact ij_⟩
def zk6(b0_node:Node)(b0_job:Job)(r2:List Out):Option ((Node×(List Finger)×(List Out))):=asks (fun γ=>(lim F pr).call 203 [.bptr 0 0] [.box 133 (capp (zaL b0_node (.sl 1 (γ 1))) (capp (cJob b0_job) ([.sl 2 (γ 2)]))),.row 82 (γ 1) false (yac zaa b0_node.fingers),.row 78 (γ 2) false (yac eOut r2)]) (zd4 b0_job)
def zsF(l:List Pair)(key:ByteArray):Option ((ByteArray×Bool)):=ask (R2 vT vF) ((lim F pr).call 204 [.lit 76 false (yac zag l),vT key] [])
abbrev zki:=(Node×Job×(List Finger)×(List Out))
def zeJ(γ:Nat->Nat):zki->AV×Store
 |(a0,a1,a2,a3)=>(.tup [],[.box 133 (capp (zal a0) (capp (cJob a1) ([.sl 2 (γ 2)]))),.row 82 (γ 1) true (yac zaa a2),.row 78 (γ 2) false (yac eOut a3)])
instance :InjS zeJ:=⟨by unfold zeJ;exact ij_⟩
def zi9(owner:Peer)(b0_node:Node)(b0_job:Job)(r2:List Out):Option (zki):=asks (fun γ=>(lim F pr).call 120 [.bptr 0 0,zad owner] [.box 133 (capp (zaL b0_node (.sl 1 (γ 1))) (capp (cJob b0_job) ([.sl 2 (γ 2)]))),.row 82 (γ 1) false (yac zaa b0_node.fingers),.row 78 (γ 2) false (yac eOut r2)]) zeJ
abbrev ziq:=(Node×Job×(List Finger)×(List Out))
def zdA(γ:Nat->Nat):ziq->AV×Store
 |(a0,a1,a2,a3)=>(.tup [],[.box 133 (capp (zal a0) (capp (cJob a1) ([.sl 2 (γ 2)]))),.row 82 (γ 1) true (yac zaa a2),.row 78 (γ 2) false (yac eOut a3)])
instance :InjS zdA:=⟨by unfold zdA;exact ij_⟩
def zkg(to_:Peer)(m:Msg)(why:Int)(b0_node:Node)(b0_job:Job)(r2:List Out):Option (ziq):=asks (fun γ=>(lim F pr).call 258 [.bptr 0 0,zad to_,eMsg m,vI why] [.box 133 (capp (zaL b0_node (.sl 1 (γ 1))) (capp (cJob b0_job) ([.sl 2 (γ 2)]))),.row 82 (γ 1) true (yac zaa b0_node.fingers),.row 78 (γ 2) false (yac eOut r2)]) zdA
abbrev zhU:=(Node×Job×(List Finger)×(List Out))
def zdd(γ:Nat->Nat):zhU->AV×Store
 |(a0,a1,a2,a3)=>(.tup [],[.box 133 (capp (zal a0) (capp (cJob a1) ([.sl 2 (γ 2)]))),.row 82 (γ 1) true (yac zaa a2),.row 78 (γ 2) false (yac eOut a3)])
instance :InjS zdd:=⟨by unfold zdd;exact ij_⟩
def zjn(to_:Peer)(b0_node:Node)(b0_job:Job)(r2:List Out):Option (zhU):=asks (fun γ=>(lim F pr).call 208 [.bptr 0 0,zad to_] [.box 133 (capp (zaL b0_node (.sl 1 (γ 1))) (capp (cJob b0_job) ([.sl 2 (γ 2)]))),.row 82 (γ 1) true (yac zaa b0_node.fingers),.row 78 (γ 2) false (yac eOut r2)]) zdd
abbrev zjq:=(Node×Job×(List Finger)×(List Out))
def zd6(γ:Nat->Nat):zjq->AV×Store
 |(a0,a1,a2,a3)=>(.tup [],[.box 133 (capp (zal a0) (capp (cJob a1) ([.sl 2 (γ 2)]))),.row 82 (γ 1) true (yac zaa a2),.row 78 (γ 2) false (yac eOut a3)])
instance :InjS zd6:=⟨by unfold zd6;exact ij_⟩
def zdQ(b0_node:Node)(b0_job:Job)(r2:List Out):Option (zjq):=asks (fun γ=>(lim F pr).call 200 [.bptr 0 0] [.box 133 (capp (zaL b0_node (.sl 1 (γ 1))) (capp (cJob b0_job) ([.sl 2 (γ 2)]))),.row 82 (γ 1) false (yac zaa b0_node.fingers),.row 78 (γ 2) false (yac eOut r2)]) zd6
abbrev zf6:=(Node×Job×(List Finger))⊕(Node×Job×(List Finger)×(List Out))
def zd1(r2:List Out)(γ:Nat->Nat):zf6->AV×Store
 | .inl (a0,a1,a2)=>(.tup [],[.box 133 (capp (zaL a0 (.sl 3 (γ 3))) (capp (cJob a1) ([.sl 2 (γ 2)]))),.row 82 (γ 1) true (yac zaa a2),.row 78 (γ 2) false (yac eOut r2),.row 82 (γ 3) false (yac zaa a0.fingers)])
 | .inr (b0,b1,b2,b3)=>(.tup [],[.box 133 (capp (zal b0) (capp (cJob b1) ([.sl 2 (γ 2)]))),.row 82 (γ 1) true (yac zaa b2),.row 78 (γ 2) false (yac eOut b3)])
instance {r2}:InjS (zd1 r2):=⟨by unfold zd1;exact ij_⟩
def zk4(why:Int)(b0_node:Node)(b0_job:Job)(r2:List Out):Option (zf6):=asks (fun γ=>(lim F pr).call 119 [.bptr 0 0,vI why] [.box 133 (capp (zaL b0_node (.sl 1 (γ 1))) (capp (cJob b0_job) ([.sl 2 (γ 2)]))),.row 82 (γ 1) false (yac zaa b0_node.fingers),.row 78 (γ 2) false (yac eOut r2)]) (zd1 r2)
abbrev zjl:=(Int×Int×Int×Bool×(List Entry)×(List Entry)×(List Pair)×(List Pend)×(List Job)×(List Result)×Int×Int×Int)
def zd0(b0_node:Node)(b0_job:Job)(r2:List Out)(γ:Nat->Nat):zjl->AV×Store
 |(a0,a1,a2,a3,a4,a5,a6,a7,a8,a9,a10,a11,a12)=>(.tup [.agg [vU a0,vH a1,vI a2,vF a3,.lit 55 false (yac zab a4),.lit 55 false (yac zab a5),.sl 1 (γ 1),.lit 76 false (yac zag a6),.lit 36 false (yac zaI a7),.lit 57 false (yac eJob a8),.lit 74 false (yac zaf a9),vW a10,vI a11,vI a12],.sl 2 (γ 2)],[.box 133 (capp (zaL b0_node (.sl 1 (γ 1))) (capp (cJob b0_job) ([.sl 2 (γ 2)]))),.row 82 (γ 1) false (yac zaa b0_node.fingers),.row 78 (γ 2) false (yac eOut r2)])
instance {b0_node b0_job r2}:InjS (zd0 b0_node b0_job r2):=⟨by unfold zd0;exact ij_⟩
def zij(b0_node:Node)(b0_job:Job)(r2:List Out):Option (zjl):=asks (fun γ=>(lim F pr).call 118 [.bptr 0 0] [.box 133 (capp (zaL b0_node (.sl 1 (γ 1))) (capp (cJob b0_job) ([.sl 2 (γ 2)]))),.row 82 (γ 1) false (yac zaa b0_node.fingers),.row 78 (γ 2) false (yac eOut r2)]) (zd0 b0_node b0_job r2)
def zc5(b0_node:Node)(b0_job:Job)(r1:List Out)(γ:Nat->Nat):Node->AV×Store
 |a0=>(.tup [zaK a0,.sl 1 (γ 1)],[.box 133 (capp (zal b0_node) (capp (cJob b0_job) ([.sl 1 (γ 1)]))),.row 78 (γ 1) false (yac eOut r1)])
instance {b0_node b0_job r1}:InjS (zc5 b0_node b0_job r1):=⟨by unfold zc5;exact ij_⟩
def zjk(b0_node:Node)(b0_job:Job)(r1:List Out):Option (Node):=asks (fun γ=>(lim F pr).call 118 [.bptr 0 0] [.box 133 (capp (zal b0_node) (capp (cJob b0_job) ([.sl 1 (γ 1)]))),.row 78 (γ 1) false (yac eOut r1)]) (zc5 b0_node b0_job r1)
def zsx(n:Node)(id:Int):Option (Int):=ask (R1 vI) ((lim F pr).call 125 [zaK n,vI id] [])
def zum(n:Node)(j:Job)(why:Int):Option ((Node×(List Out))):=ask (R2 zaK (eL 78 eOut)) ((lim F pr).call 126 [zaK n,eJob j,vI why] [])
def znH(a:List Peer)(b:List Peer):Option (Bool):=ask (R1 vF) ((lim F pr).call 131 [.lit 25 false (yac zad a),.lit 25 false (yac zad b)] [])
def zhJ(a:Int)(x:Int)(b:Int):Option (Bool):=ask (R1 vF) ((lim F pr).call 207 [vU a,vU x,vU b] [])
def zgc(b0:Int):Bool->AV×Store
 |a0=>(vF a0,[.box 3 [vI b0]])
instance {b0}:Inj (zgc b0):=⟨by unfold zgc;exact ij_⟩
def zn5(j:Job)(b0:Int):Option (Bool):=ask (zgc b0) ((lim F pr).call 256 [eJob j,.bptr 0 0] [.box 3 [vI b0]])
def zdw(b0:Int):Int->AV×Store
 |a0=>(vI a0,[.box 3 [vI b0]])
instance {b0}:Inj (zdw b0):=⟨by unfold zdw;exact ij_⟩
def znh(s:List Job)(b0:Int):Option (Int):=ask (zdw b0) ((lim F pr).call 254 [.lit 57 false (yac eJob s),.fn 256 [.bptr 0 0]] [.box 3 [vI b0]])
def zhc(γ:Nat->Nat):(List Job)->AV×Store
 |a0=>(.sl 0 (γ 0),[.row 57 (γ 0) false (yac eJob a0)])
instance :InjS zhc:=⟨by unfold zhc;exact ij_⟩
def zpx(i:Int)(j:Int)(r0:List Job):Option ((List Job)):=asks (fun γ=>(lim F pr).call 262 [.sl 0 (γ 0),vI i,vI j] [.row 57 (γ 0) false (yac eJob r0)]) zhc
def ziw(za7:Int)(zaX:Int)(za5:Int)(za0:Bool)(zbq:Int)(za6:Int)(zaY:Int)(r1:List Entry)(r2:List Entry)(r3:List Finger)(r4:List Pair)(r5:List Pend)(r6:List Job)(r7:List Result)(γ:Nat->Nat):((List Result)×(List Result))⊕Unit->AV×Store
 | .inl (a0,a1)=>(.tup [],[.box 34 [vU za7,vH zaX,vI za5,vF za0,.sl 1 (γ 1),.sl 2 (γ 2),.sl 3 (γ 3),.sl 4 (γ 4),.sl 5 (γ 5),.sl 6 (γ 6),.sl 8 (γ 8),vW zbq,vI za6,vI zaY],.row 55 (γ 1) false (yac zab r1),.row 55 (γ 2) false (yac zab r2),.row 82 (γ 3) false (yac zaa r3),.row 76 (γ 4) false (yac zag r4),.row 36 (γ 5) false (yac zaI r5),.row 57 (γ 6) false (yac eJob r6),.row 74 (γ 7) false (yac zaf a0),.row 74 (γ 8) false (yac zaf a1)])
 | .inr ()=>(.tup [],[.box 34 [vU za7,vH zaX,vI za5,vF za0,.sl 1 (γ 1),.sl 2 (γ 2),.sl 3 (γ 3),.sl 4 (γ 4),.sl 5 (γ 5),.sl 6 (γ 6),.sl 7 (γ 7),vW zbq,vI za6,vI zaY],.row 55 (γ 1) false (yac zab r1),.row 55 (γ 2) false (yac zab r2),.row 82 (γ 3) false (yac zaa r3),.row 76 (γ 4) false (yac zag r4),.row 36 (γ 5) false (yac zaI r5),.row 57 (γ 6) false (yac eJob r6),.row 74 (γ 7) false (yac zaf r7)])
instance {za7 zaX za5 za0 zbq za6 zaY r1 r2 r3 r4 r5 r6 r7}:InjS (ziw za7 zaX za5 za0 zbq za6 zaY r1 r2 r3 r4 r5 r6 r7):=⟨by unfold ziw;exact ij_⟩
def zrY(j:Job)(has:Bool)(val:ByteArray)(e_:Int)(za7:Int)(zaX:Int)(za5:Int)(za0:Bool)(zbq:Int)(za6:Int)(zaY:Int)(r1:List Entry)(r2:List Entry)(r3:List Finger)(r4:List Pair)(r5:List Pend)(r6:List Job)(r7:List Result):Option (((List Result)×(List Result))⊕Unit):=asks (fun γ=>(lim F pr).call 141 [.bptr 0 0,eJob j,vF has,vT val,vI e_] [.box 34 [vU za7,vH zaX,vI za5,vF za0,.sl 1 (γ 1),.sl 2 (γ 2),.sl 3 (γ 3),.sl 4 (γ 4),.sl 5 (γ 5),.sl 6 (γ 6),.sl 7 (γ 7),vW zbq,vI za6,vI zaY],.row 55 (γ 1) false (yac zab r1),.row 55 (γ 2) false (yac zab r2),.row 82 (γ 3) false (yac zaa r3),.row 76 (γ 4) false (yac zag r4),.row 36 (γ 5) false (yac zaI r5),.row 57 (γ 6) false (yac eJob r6),.row 74 (γ 7) false (yac zaf r7)]) (ziw za7 zaX za5 za0 zbq za6 zaY r1 r2 r3 r4 r5 r6 r7)
def zjO(l:List Entry):Option ((List Peer)):=ask (K1 25 zad) ((lim F pr).call 98 [.lit 55 false (yac zab l)] [])
def zjD(a:Int)(x:Int)(b:Int):Option (Bool):=ask (R1 vF) ((lim F pr).call 225 [vU a,vU x,vU b] [])
def zm5(n:Node)(key:Int):Option (Bool):=ask (R1 vF) ((lim F pr).call 226 [zaK n,vU key] [])
def zpS(me:Peer)(l:List Entry)(f:List Finger)(key:Int)(most:Int):Option ((List Peer)):=ask (R1 (eL 25 zad)) ((lim F pr).call 227 [zad me,.lit 55 false (yac zab l),.lit 82 false (yac zaa f),vU key,vI most] [])
def zf9(b0:Int):Bool->AV×Store
 |a0=>(vF a0,[.box 3 [vI b0]])
instance {b0}:Inj (zf9 b0):=⟨by unfold zf9;exact ij_⟩
def zn2(f:Finger)(b0:Int):Option (Bool):=ask (zf9 b0) ((lim F pr).call 280 [zaa f,.bptr 0 0] [.box 3 [vI b0]])
def zcn(r0:List Finger)(b1:Int)(γ:Nat->Nat):Int->AV×Store
 |a0=>(vI a0,[.row 82 (γ 0) false (yac zaa r0),.box 3 [vI b1]])
instance {r0 b1}:InjS (zcn r0 b1):=⟨by unfold zcn;exact ij_⟩
def zhd(r0:List Finger)(b1:Int):Option (Int):=askg (fun γ=>(lim F pr).call 219 [.sl 0 (γ 0),.fn 280 [.bptr 1 0]] [.row 82 (γ 0) false (yac zaa r0),.box 3 [vI b1]]) (zcn r0 b1)
def zga(b0:Int):Bool->AV×Store
 |a0=>(vF a0,[.box 3 [vI b0]])
instance {b0}:Inj (zga b0):=⟨by unfold zga;exact ij_⟩
def zn3(f:Finger)(b0:Int):Option (Bool):=ask (zga b0) ((lim F pr).call 281 [zaa f,.bptr 0 0] [.box 3 [vI b0]])
def zco(r0:List Finger)(b1:Int)(γ:Nat->Nat):Int->AV×Store
 |a0=>(vI a0,[.row 82 (γ 0) false (yac zaa r0),.box 3 [vI b1]])
instance {r0 b1}:InjS (zco r0 b1):=⟨by unfold zco;exact ij_⟩
def zhe(r0:List Finger)(b1:Int):Option (Int):=askg (fun γ=>(lim F pr).call 219 [.sl 0 (γ 0),.fn 281 [.bptr 1 0]] [.row 82 (γ 0) false (yac zaa r0),.box 3 [vI b1]]) (zco r0 b1)
def zsG(l:List Pair)(key:ByteArray)(val:ByteArray):Option (((List Pair)×Int)):=ask (R2 (eL 76 zag) vI) ((lim F pr).call 245 [.lit 76 false (yac zag l),vT key,vT val] [])
def zqM(n:Node)(to_:Peer)(l:List Pair)(fresh:Bool):Option ((Node×(List Out))):=ask (R2 zaK (eL 78 eOut)) ((lim F pr).call 99 [zaK n,zad to_,.lit 76 false (yac zag l),vF fresh] [])
def zlr(l:List Pair)(key:ByteArray):Option (Int):=ask (R1 vI) ((lim F pr).call 261 [.lit 76 false (yac zag l),vT key] [])
def zmY(l:List Job)(id:Int):Option (Int):=ask (R1 vI) ((lim F pr).call 212 [.lit 57 false (yac eJob l),vI id] [])
def zfA(n:Node)(j:Job):Option (Node):=ask (R1 zaK) ((lim F pr).call 213 [zaK n,eJob j] [])
def zcu(n:Node)(j:Job)(has:Bool)(val:ByteArray)(e_:Int):Option (Node):=ask (R1 zaK) ((lim F pr).call 129 [zaK n,eJob j,vF has,vT val,vI e_] [])
def zkU(n:Node)(j:Job):Option ((Node×(List Out))):=ask (R2 zaK (eL 78 eOut)) ((lim F pr).call 214 [zaK n,eJob j] [])
def zlG(a:Int)(b:Int):Option (Int):=ask (R1 vU) ((lim F pr).call 140 [vU a,vU b] [])
def zsa(l:List Entry):Option ((List Peer)):=ask (K1 25 zad) ((lim F pr).call 158 [.lit 55 false (yac zab l),.fn 159 []] [])
def zfb(zau:Int)(zaj:Int):Bool->AV×Store
 |a0=>(vF a0,[.box 25 [vU zau,vH zaj]])
instance {zau zaj}:Inj (zfb zau zaj):=⟨by unfold zfb;exact ij_⟩
def zmG(q:Peer)(zau:Int)(zaj:Int):Option (Bool):=ask (zfb zau zaj) ((lim F pr).call 264 [zad q,.bptr 0 0] [.box 25 [vU zau,vH zaj]])
def zdS(zau:Int)(zaj:Int):Int->AV×Store
 |a0=>(vI a0,[.box 25 [vU zau,vH zaj]])
instance {zau zaj}:Inj (zdS zau zaj):=⟨by unfold zdS;exact ij_⟩
def zkq(s:List Peer)(zau:Int)(zaj:Int):Option (Int):=ask (zdS zau zaj) ((lim F pr).call 205 [.lit 25 false (yac zad s),.fn 264 [.bptr 0 0]] [.box 25 [vU zau,vH zaj]])
def zwe(s:ByteArray):Option (Bool):=ask (R1 vF) ((lim F pr).call 233 [vT s] [])
def zgO(b0:ByteArray):Bool->AV×Store
 |a0=>(vF a0,[.box 9 [vT b0]])
instance {b0}:Inj (zgO b0):=⟨by unfold zgO;exact ij_⟩
def zox(p:Pair)(b0:ByteArray):Option (Bool):=ask (zgO b0) ((lim F pr).call 275 [zag p,.bptr 0 0] [.box 9 [vT b0]])
def zcY(b0:ByteArray):Int->AV×Store
 |a0=>(vI a0,[.box 9 [vT b0]])
instance {b0}:Inj (zcY b0):=⟨by unfold zcY;exact ij_⟩
def zjc(s:List Pair)(b0:ByteArray):Option (Int):=ask (zcY b0) ((lim F pr).call 154 [.lit 76 false (yac zag s),.fn 275 [.bptr 0 0]] [.box 9 [vT b0]])
def zeF(b0:ByteArray):Bool->AV×Store
 |a0=>(vF a0,[.box 9 [vT b0]])
instance {b0}:Inj (zeF b0):=⟨by unfold zeF;exact ij_⟩
def zi7(p:Pair)(b0:ByteArray):Option (Bool):=ask (zeF b0) ((lim F pr).call 283 [zag p,.bptr 0 0] [.box 9 [vT b0]])
def zcZ(b0:ByteArray):Int->AV×Store
 |a0=>(vI a0,[.box 9 [vT b0]])
instance {b0}:Inj (zcZ b0):=⟨by unfold zcZ;exact ij_⟩
def zmv(s:List Pair)(b0:ByteArray):Option (Int):=ask (zcZ b0) ((lim F pr).call 154 [.lit 76 false (yac zag s),.fn 283 [.bptr 0 0]] [.box 9 [vT b0]])
def zqz(n:Node)(id:Int)(has:Bool)(val:ByteArray)(e_:Int):Option (Node):=ask (R1 zaK) ((lim F pr).call 218 [zaK n,vI id,vF has,vT val,vI e_] [])
def zqF(n:Node)(j:Job)(to_:Peer):Option ((Node×(List Out))):=ask (R2 zaK (eL 78 eOut)) ((lim F pr).call 130 [zaK n,eJob j,zad to_] [])
def zuj(n:Node)(key:Int):Option ((Peer×(List Peer)×Bool)):=ask (R3 zad (eL 25 zad) vF) ((lim F pr).call 161 [zaK n,vU key] [])
def zwu(n:Node)(j:Job)(owner:Peer):Option ((Node×(List Out))):=ask (R2 zaK (eL 78 eOut)) ((lim F pr).call 127 [zaK n,eJob j,zad owner] [])
def zqa(x:Entry):Option (Bool):=ask (R1 vF) ((lim F pr).call 159 [zab x] [])
def zsJ(s:ByteArray):Option (Bool):=ask (R1 vF) ((lim F pr).call 272 [vT s] [])
def zsI(s:ByteArray):Option (Int):=ask (R1 vI) ((lim F pr).call 273 [vT s] [])
def zui(l:List Result)(j:Job)(has:Bool)(val:ByteArray)(e_:Int):Option ((List Result)):=ask (R1 (eL 74 zaf)) ((lim F pr).call 142 [.lit 74 false (yac zaf l),eJob j,vF has,vT val,vI e_] [])
def zoq(l:List Job)(at_:Int):Option ((List Job)):=ask (R1 (eL 57 eJob)) ((lim F pr).call 143 [.lit 57 false (yac eJob l),vI at_] [])
def zmT(l:List Entry):Option ((List Peer)):=ask (K1 25 zad) ((lim F pr).call 92 [.lit 55 false (yac zab l)] [])
def zmS(a:Int)(x:Int)(b:Int):Option (Bool):=ask (R1 vF) ((lim F pr).call 217 [vU a,vU x,vU b] [])
def zuf(me:Peer)(l:List Entry)(f:List Finger)(key:Int)(most:Int):Option ((List Peer)):=ask (R1 (eL 25 zad)) ((lim F pr).call 229 [zad me,.lit 55 false (yac zab l),.lit 82 false (yac zaa f),vU key,vI most] [])
def ztq(n:Node)(j:Job)(to_:Peer):Option ((Node×(List Out))):=ask (R2 zaK (eL 78 eOut)) ((lim F pr).call 215 [zaK n,eJob j,zad to_] [])
def zul(n:Node)(key:ByteArray)(val:ByteArray):Option ((Node×(List Out)×Int)):=ask (R3 zaK (eL 78 eOut) vI) ((lim F pr).call 192 [zaK n,vT key,vT val] [])
def zwo(l:List Pair)(key:ByteArray):Option ((ByteArray×Bool)):=ask (R2 vT vF) ((lim F pr).call 191 [.lit 76 false (yac zag l),vT key] [])
def zwn(l:List Finger)(bit:Int)(p:Peer):Option ((List Finger)):=ask (R1 (eL 82 zaa)) ((lim F pr).call 216 [.lit 82 false (yac zaa l),vI bit,zad p] [])
def zsK(s:ByteArray)(at_:Int)(c:Int):Option (Bool):=ask (R1 vF) ((lim F pr).call 288 [vT s,vI at_,vR c] [])
def zsi(l:List Peer)(addr:Int):Option (Bool):=ask (R1 vF) ((lim F pr).call 271 [.lit 25 false (yac zad l),vH addr] [])
def zob(a:Int)(x:Int)(b:Int):Option (Bool):=ask (R1 vF) ((lim F pr).call 128 [vU a,vU x,vU b] [])
def zqf(a:Int)(b:Int):Option (Int):=ask (R1 vU) ((lim F pr).call 211 [vU a,vU b] [])
def zwp(l:List Pair)(key:ByteArray)(val:ByteArray):Option (((List Pair)×Int)):=ask (R2 (eL 76 zag) vI) ((lim F pr).call 252 [.lit 76 false (yac zag l),vT key,vT val] [])
def zuk(n:Node)(to_:Peer)(l:List Pair)(fresh:Bool):Option ((Node×(List Out))):=ask (R2 zaK (eL 78 eOut)) ((lim F pr).call 102 [zaK n,zad to_,.lit 76 false (yac zag l),vF fresh] [])
def znL(l:List Pair)(key:ByteArray):Option (Int):=ask (R1 vI) ((lim F pr).call 253 [.lit 76 false (yac zag l),vT key] [])
def zwm(l:List Finger)(bit:Int):Option ((Peer×Bool)):=ask (R2 zad vF) ((lim F pr).call 263 [.lit 82 false (yac zaa l),vI bit] [])
def zwl(s:ByteArray):Option (Bool):=ask (R1 vF) ((lim F pr).call 186 [vT s] [])
def zqk(a:ByteArray)(b:ByteArray):Option (Bool):=ask (R1 vF) ((lim F pr).call 278 [vT a,vT b] [])
def zsd(s:ByteArray):Option (Bool):=ask (R1 vF) ((lim F pr).call 248 [vT s] [])
def znF(s:ByteArray):Option ((List ByteArray)):=ask (R1 (eL 9 vT)) ((lim F pr).call 249 [vT s] [])
def zhv(s:ByteArray)(at_:Int):Option (Int):=ask (R1 vI) ((lim F pr).call 277 [vT s,vI at_] [])
def zhw(c:Int):Option (Bool):=ask (R1 vF) ((lim F pr).call 291 [vB c] [])
end Go.Ab.Tryz
namespace Go.Ab.Tryz
open Go Go.Ab Go.Proofs
set_option maxRecDepth 10000
set_option maxHeartbeats 4000000
open Go.ChangeShapes Go.WideShapes
open Go.DataW renaming trod->yan,trod_struct->ybG
open List renaming mem_append->yal
def Peer.Ok(x:Peer):Prop:=OkU x.id/\OkH x.addr
theorem rd25{H:Type}{enc:TypeId×Value->H}{w:World}{base:Nat}{spare:Nat->Bool}{held:Bool}{fuel:Nat}{cs:List Value}{x:DataW H×List MemPlace}(h:yan enc Tryz.prog w base spare held fuel 25 cs=some x):∃a,Rd Tryz.prog w zad Peer.Ok cs a:=by
 obtain⟨xs,n,rfl,rfl,hl,hxl,hf⟩:=ybG Tryz.underlying25 h;have hc:cs.length=2:=hl.trans (by kernel_rfl);have hx:xs.length=2:=hxl
 match cs,hc with
 | [c0,c1],_=>
  match xs,hx with
  | [x0,x1],_=>
   have h0:yan enc Tryz.prog w base spare held n 22 [c0]=some x0:=hf 0 _ rfl;obtain⟨a0,d0,o0,k0⟩:=zEK Tryz.underlying22 h0;have h1:yan enc Tryz.prog w base spare held n 23 [c1]=some x1:=hf 1 _ rfl;obtain⟨a1,d1,o1,k1⟩:=zLg Tryz.underlying23 h1;refine⟨⟨a0,a1⟩,(d0.append d1),fun c hc=>?_,k0,k1⟩;have hc:c∈(vU a0).cells++((vH a1).cells):=hc;simp only[yal]at hc;rcases hc with hc|hc
   ·exact o0 c hc
   ·exact o1 c hc
def Entry.Ok(x:Entry):Prop:=Peer.Ok x.peer/\OkI x.misses
theorem rd55{H:Type}{enc:TypeId×Value->H}{w:World}{base:Nat}{spare:Nat->Bool}{held:Bool}{fuel:Nat}{cs:List Value}{x:DataW H×List MemPlace}(h:yan enc Tryz.prog w base spare held fuel 55 cs=some x):∃a,Rd Tryz.prog w zab Entry.Ok cs a:=by
 obtain⟨xs,n,rfl,rfl,hl,hxl,hf⟩:=ybG Tryz.underlying55 h;have hc:cs.length=3:=hl.trans (by kernel_rfl);have hx:xs.length=2:=hxl
 match cs,hc with
 | [c0,c1,c2],_=>
  match xs,hx with
  | [x0,x1],_=>
   have h0:yan enc Tryz.prog w base spare held n 25 [c0,c1]=some x0:=hf 0 _ rfl;obtain⟨a0,d0,o0,k0⟩:=rd25 h0;have h1:yan enc Tryz.prog w base spare held n 3 [c2]=some x1:=hf 1 _ rfl;obtain⟨a1,d1,o1,k1⟩:=zcJ Tryz.underlying3 h1;refine⟨⟨a0,a1⟩,(d0.append d1),fun c hc=>?_,k0,k1⟩;have hc:c∈(zad a0).cells++((vI a1).cells):=hc;simp only[yal]at hc;rcases hc with hc|hc
   ·exact o0 c hc
   ·exact o1 c hc
def Finger.Ok(x:Finger):Prop:=OkI x.bit/\Peer.Ok x.peer
theorem rd82{H:Type}{enc:TypeId×Value->H}{w:World}{base:Nat}{spare:Nat->Bool}{held:Bool}{fuel:Nat}{cs:List Value}{x:DataW H×List MemPlace}(h:yan enc Tryz.prog w base spare held fuel 82 cs=some x):∃a,Rd Tryz.prog w zaa Finger.Ok cs a:=by
 obtain⟨xs,n,rfl,rfl,hl,hxl,hf⟩:=ybG Tryz.underlying82 h;have hc:cs.length=3:=hl.trans (by kernel_rfl);have hx:xs.length=2:=hxl
 match cs,hc with
 | [c0,c1,c2],_=>
  match xs,hx with
  | [x0,x1],_=>
   have h0:yan enc Tryz.prog w base spare held n 3 [c0]=some x0:=hf 0 _ rfl;obtain⟨a0,d0,o0,k0⟩:=zcJ Tryz.underlying3 h0;have h1:yan enc Tryz.prog w base spare held n 25 [c1,c2]=some x1:=hf 1 _ rfl;obtain⟨a1,d1,o1,k1⟩:=rd25 h1;refine⟨⟨a0,a1⟩,(d0.append d1),fun c hc=>?_,k0,k1⟩;have hc:c∈(vI a0).cells++((zad a1).cells):=hc;simp only[yal]at hc;rcases hc with hc|hc
   ·exact o0 c hc
   ·exact o1 c hc
def Pair.Ok(x:Pair):Prop:=OkT x.key/\OkT x.val
theorem rd76{H:Type}{enc:TypeId×Value->H}{w:World}{base:Nat}{spare:Nat->Bool}{held:Bool}{fuel:Nat}{cs:List Value}{x:DataW H×List MemPlace}(h:yan enc Tryz.prog w base spare held fuel 76 cs=some x):∃a,Rd Tryz.prog w zag Pair.Ok cs a:=by
 obtain⟨xs,n,rfl,rfl,hl,hxl,hf⟩:=ybG Tryz.underlying76 h;have hc:cs.length=2:=hl.trans (by kernel_rfl);have hx:xs.length=2:=hxl
 match cs,hc with
 | [c0,c1],_=>
  match xs,hx with
  | [x0,x1],_=>
   have h0:yan enc Tryz.prog w base spare held n 9 [c0]=some x0:=hf 0 _ rfl;obtain⟨a0,d0,o0,k0⟩:=zjC Tryz.underlying9 h0;have h1:yan enc Tryz.prog w base spare held n 9 [c1]=some x1:=hf 1 _ rfl;obtain⟨a1,d1,o1,k1⟩:=zjC Tryz.underlying9 h1;refine⟨⟨a0,a1⟩,(d0.append d1),fun c hc=>?_,k0,k1⟩;have hc:c∈(vT a0).cells++((vT a1).cells):=hc;simp only[yal]at hc;rcases hc with hc|hc
   ·exact o0 c hc
   ·exact o1 c hc
def Pend.Ok(x:Pend):Prop:=OkW x.rid/\OkI x.kind/\OkI x.why/\OkI x.job/\Peer.Ok x.to_/\OkI x.due
theorem rd36{H:Type}{enc:TypeId×Value->H}{w:World}{base:Nat}{spare:Nat->Bool}{held:Bool}{fuel:Nat}{cs:List Value}{x:DataW H×List MemPlace}(h:yan enc Tryz.prog w base spare held fuel 36 cs=some x):∃a,Rd Tryz.prog w zaI Pend.Ok cs a:=by
 obtain⟨xs,n,rfl,rfl,hl,hxl,hf⟩:=ybG Tryz.underlying36 h;have hc:cs.length=7:=hl.trans (by kernel_rfl);have hx:xs.length=6:=hxl
 match cs,hc with
 | [c0,c1,c2,c3,c4,c5,c6],_=>
  match xs,hx with
  | [x0,x1,x2,x3,x4,x5],_=>
   have h0:yan enc Tryz.prog w base spare held n 32 [c0]=some x0:=hf 0 _ rfl;obtain⟨a0,d0,o0,k0⟩:=zEJ Tryz.underlying32 h0;have h1:yan enc Tryz.prog w base spare held n 3 [c1]=some x1:=hf 1 _ rfl;obtain⟨a1,d1,o1,k1⟩:=zcJ Tryz.underlying3 h1;have h2:yan enc Tryz.prog w base spare held n 3 [c2]=some x2:=hf 2 _ rfl;obtain⟨a2,d2,o2,k2⟩:=zcJ Tryz.underlying3 h2;have h3:yan enc Tryz.prog w base spare held n 3 [c3]=some x3:=hf 3 _ rfl;obtain⟨a3,d3,o3,k3⟩:=zcJ Tryz.underlying3 h3;have h4:yan enc Tryz.prog w base spare held n 25 [c4,c5]=some x4:=hf 4 _ rfl;obtain⟨a4,d4,o4,k4⟩:=rd25 h4;have h5:yan enc Tryz.prog w base spare held n 3 [c6]=some x5:=hf 5 _ rfl;obtain⟨a5,d5,o5,k5⟩:=zcJ Tryz.underlying3 h5;refine⟨⟨a0,a1,a2,a3,a4,a5⟩,(d0.append (d1.append (d2.append (d3.append (d4.append d5))))),fun c hc=>?_,k0,k1,k2,k3,k4,k5⟩;have hc:c∈(vW a0).cells++((vI a1).cells++((vI a2).cells++((vI a3).cells++((zad a4).cells++((vI a5).cells))))):=hc;simp only[yal]at hc;rcases hc with hc|hc|hc|hc|hc|hc
   ·exact o0 c hc
   ·exact o1 c hc
   ·exact o2 c hc
   ·exact o3 c hc
   ·exact o4 c hc
   ·exact o5 c hc
theorem arg36{H:Type}{enc:TypeId×Value->H}{w:World}{base:Nat}{spare:Nat->Bool}{held:Bool}{r:Reach}{b0:Nat}{v:Value}{d:DataW H}{ps:List MemPlace}(hval:Value.okWide Tryz.prog w r b0 36 v)(h:DataW.Trod enc Tryz.prog w base spare held 36 v d ps):∃a,DL Tryz.prog w (fun _=>False) [zaI a] [v]/\Pend.Ok a:=
 zuI (fun _=>⟨_,rfl⟩) Tryz.underlying36 hval (let⟨_,hf⟩:=h;rd36 hf)
def Job.Ok(x:Job):Prop:=OkI x.id/\OkI x.kind/\OkI x.bit/\OkT x.key/\OkT x.val/\OkU x.target/\Peer.Ok x.via/\Peer.Ok x.at_/\OkF x.doing/\OkI x.hops/\OkI x.tries/\OkI x.due
theorem rd57{H:Type}{enc:TypeId×Value->H}{w:World}{base:Nat}{spare:Nat->Bool}{held:Bool}{fuel:Nat}{cs:List Value}{x:DataW H×List MemPlace}(h:yan enc Tryz.prog w base spare held fuel 57 cs=some x):∃a,Rd Tryz.prog w eJob Job.Ok cs a:=by
 obtain⟨xs,n,rfl,rfl,hl,hxl,hf⟩:=ybG Tryz.underlying57 h;have hc:cs.length=14:=hl.trans (by kernel_rfl);have hx:xs.length=12:=hxl
 match cs,hc with
 | [c0,c1,c2,c3,c4,c5,c6,c7,c8,c9,c10,c11,c12,c13],_=>
  match xs,hx with
  | [x0,x1,x2,x3,x4,x5,x6,x7,x8,x9,x10,x11],_=>
   have h0:yan enc Tryz.prog w base spare held n 3 [c0]=some x0:=hf 0 _ rfl;obtain⟨a0,d0,o0,k0⟩:=zcJ Tryz.underlying3 h0;have h1:yan enc Tryz.prog w base spare held n 3 [c1]=some x1:=hf 1 _ rfl;obtain⟨a1,d1,o1,k1⟩:=zcJ Tryz.underlying3 h1;have h2:yan enc Tryz.prog w base spare held n 3 [c2]=some x2:=hf 2 _ rfl;obtain⟨a2,d2,o2,k2⟩:=zcJ Tryz.underlying3 h2;have h3:yan enc Tryz.prog w base spare held n 9 [c3]=some x3:=hf 3 _ rfl;obtain⟨a3,d3,o3,k3⟩:=zjC Tryz.underlying9 h3;have h4:yan enc Tryz.prog w base spare held n 9 [c4]=some x4:=hf 4 _ rfl;obtain⟨a4,d4,o4,k4⟩:=zjC Tryz.underlying9 h4;have h5:yan enc Tryz.prog w base spare held n 22 [c5]=some x5:=hf 5 _ rfl;obtain⟨a5,d5,o5,k5⟩:=zEK Tryz.underlying22 h5;have h6:yan enc Tryz.prog w base spare held n 25 [c6,c7]=some x6:=hf 6 _ rfl;obtain⟨a6,d6,o6,k6⟩:=rd25 h6;have h7:yan enc Tryz.prog w base spare held n 25 [c8,c9]=some x7:=hf 7 _ rfl;obtain⟨a7,d7,o7,k7⟩:=rd25 h7;have h8:yan enc Tryz.prog w base spare held n 4 [c10]=some x8:=hf 8 _ rfl;obtain⟨a8,d8,o8,k8⟩:=zwv Tryz.underlying4 h8;have h9:yan enc Tryz.prog w base spare held n 3 [c11]=some x9:=hf 9 _ rfl;obtain⟨a9,d9,o9,k9⟩:=zcJ Tryz.underlying3 h9;have h10:yan enc Tryz.prog w base spare held n 3 [c12]=some x10:=hf 10 _ rfl;obtain⟨a10,d10,o10,k10⟩:=zcJ Tryz.underlying3 h10;have h11:yan enc Tryz.prog w base spare held n 3 [c13]=some x11:=hf 11 _ rfl;obtain⟨a11,d11,o11,k11⟩:=zcJ Tryz.underlying3 h11;refine⟨⟨a0,a1,a2,a3,a4,a5,a6,a7,a8,a9,a10,a11⟩,(d0.append (d1.append (d2.append (d3.append (d4.append (d5.append (d6.append (d7.append (d8.append (d9.append (d10.append d11))))))))))),fun c hc=>?_,k0,k1,k2,k3,k4,k5,k6,k7,k8,k9,k10,k11⟩;have hc:c∈(vI a0).cells++((vI a1).cells++((vI a2).cells++((vT a3).cells++((vT a4).cells++((vU a5).cells++((zad a6).cells++((zad a7).cells++((vF a8).cells++((vI a9).cells++((vI a10).cells++((vI a11).cells))))))))))):=hc;simp only[yal]at hc;rcases hc with hc|hc|hc|hc|hc|hc|hc|hc|hc|hc|hc|hc
   ·exact o0 c hc
   ·exact o1 c hc
   ·exact o2 c hc
   ·exact o3 c hc
   ·exact o4 c hc
   ·exact o5 c hc
   ·exact o6 c hc
   ·exact o7 c hc
   ·exact o8 c hc
   ·exact o9 c hc
   ·exact o10 c hc
   ·exact o11 c hc
def Result.Ok(x:Result):Prop:=OkI x.job/\OkI x.kind/\OkT x.key/\OkT x.val/\OkF x.has/\OkI x.err
theorem rd74{H:Type}{enc:TypeId×Value->H}{w:World}{base:Nat}{spare:Nat->Bool}{held:Bool}{fuel:Nat}{cs:List Value}{x:DataW H×List MemPlace}(h:yan enc Tryz.prog w base spare held fuel 74 cs=some x):∃a,Rd Tryz.prog w zaf Result.Ok cs a:=by
 obtain⟨xs,n,rfl,rfl,hl,hxl,hf⟩:=ybG Tryz.underlying74 h;have hc:cs.length=6:=hl.trans (by kernel_rfl);have hx:xs.length=6:=hxl
 match cs,hc with
 | [c0,c1,c2,c3,c4,c5],_=>
  match xs,hx with
  | [x0,x1,x2,x3,x4,x5],_=>
   have h0:yan enc Tryz.prog w base spare held n 3 [c0]=some x0:=hf 0 _ rfl;obtain⟨a0,d0,o0,k0⟩:=zcJ Tryz.underlying3 h0;have h1:yan enc Tryz.prog w base spare held n 3 [c1]=some x1:=hf 1 _ rfl;obtain⟨a1,d1,o1,k1⟩:=zcJ Tryz.underlying3 h1;have h2:yan enc Tryz.prog w base spare held n 9 [c2]=some x2:=hf 2 _ rfl;obtain⟨a2,d2,o2,k2⟩:=zjC Tryz.underlying9 h2;have h3:yan enc Tryz.prog w base spare held n 9 [c3]=some x3:=hf 3 _ rfl;obtain⟨a3,d3,o3,k3⟩:=zjC Tryz.underlying9 h3;have h4:yan enc Tryz.prog w base spare held n 4 [c4]=some x4:=hf 4 _ rfl;obtain⟨a4,d4,o4,k4⟩:=zwv Tryz.underlying4 h4;have h5:yan enc Tryz.prog w base spare held n 61 [c5]=some x5:=hf 5 _ rfl;obtain⟨a5,d5,o5,k5⟩:=zcJ Tryz.underlying61 h5;refine⟨⟨a0,a1,a2,a3,a4,a5⟩,(d0.append (d1.append (d2.append (d3.append (d4.append d5))))),fun c hc=>?_,k0,k1,k2,k3,k4,k5⟩;have hc:c∈(vI a0).cells++((vI a1).cells++((vT a2).cells++((vT a3).cells++((vF a4).cells++((vI a5).cells))))):=hc;simp only[yal]at hc;rcases hc with hc|hc|hc|hc|hc|hc
   ·exact o0 c hc
   ·exact o1 c hc
   ·exact o2 c hc
   ·exact o3 c hc
   ·exact o4 c hc
   ·exact o5 c hc
theorem rd26{H:Type}{enc:TypeId×Value->H}{w:World}{base:Nat}{spare:Nat->Bool}{held:Bool}{fuel:Nat}{cs:List Value}{x:DataW H×List MemPlace}(h:yan enc Tryz.prog w base spare held fuel 26 cs=some x):∃l,Rd Tryz.prog w (eL 55 zab) (OkL Entry.Ok) cs l:=
 zkV (size:=3) Tryz.underlying26 (by kernel_rfl) (by omega) (fun a=>rfl) h (fun n cs' y _ hy=>rd55 hy)
theorem rd27{H:Type}{enc:TypeId×Value->H}{w:World}{base:Nat}{spare:Nat->Bool}{held:Bool}{fuel:Nat}{cs:List Value}{x:DataW H×List MemPlace}(h:yan enc Tryz.prog w base spare held fuel 27 cs=some x):∃l,Rd Tryz.prog w (eL 82 zaa) (OkL Finger.Ok) cs l:=
 zkV (size:=3) Tryz.underlying27 (by kernel_rfl) (by omega) (fun a=>rfl) h (fun n cs' y _ hy=>rd82 hy)
theorem rd28{H:Type}{enc:TypeId×Value->H}{w:World}{base:Nat}{spare:Nat->Bool}{held:Bool}{fuel:Nat}{cs:List Value}{x:DataW H×List MemPlace}(h:yan enc Tryz.prog w base spare held fuel 28 cs=some x):∃l,Rd Tryz.prog w (eL 76 zag) (OkL Pair.Ok) cs l:=
 zkV (size:=2) Tryz.underlying28 (by kernel_rfl) (by omega) (fun a=>rfl) h (fun n cs' y _ hy=>rd76 hy)
theorem rd29{H:Type}{enc:TypeId×Value->H}{w:World}{base:Nat}{spare:Nat->Bool}{held:Bool}{fuel:Nat}{cs:List Value}{x:DataW H×List MemPlace}(h:yan enc Tryz.prog w base spare held fuel 29 cs=some x):∃l,Rd Tryz.prog w (eL 36 zaI) (OkL Pend.Ok) cs l:=
 zkV (size:=7) Tryz.underlying29 (by kernel_rfl) (by omega) (fun a=>rfl) h (fun n cs' y _ hy=>rd36 hy)
theorem rd30{H:Type}{enc:TypeId×Value->H}{w:World}{base:Nat}{spare:Nat->Bool}{held:Bool}{fuel:Nat}{cs:List Value}{x:DataW H×List MemPlace}(h:yan enc Tryz.prog w base spare held fuel 30 cs=some x):∃l,Rd Tryz.prog w (eL 57 eJob) (OkL Job.Ok) cs l:=
 zkV (size:=14) Tryz.underlying30 (by kernel_rfl) (by omega) (fun a=>rfl) h (fun n cs' y _ hy=>rd57 hy)
theorem rd31{H:Type}{enc:TypeId×Value->H}{w:World}{base:Nat}{spare:Nat->Bool}{held:Bool}{fuel:Nat}{cs:List Value}{x:DataW H×List MemPlace}(h:yan enc Tryz.prog w base spare held fuel 31 cs=some x):∃l,Rd Tryz.prog w (eL 74 zaf) (OkL Result.Ok) cs l:=
 zkV (size:=6) Tryz.underlying31 (by kernel_rfl) (by omega) (fun a=>rfl) h (fun n cs' y _ hy=>rd74 hy)
def Node.Ok(x:Node):Prop:=Peer.Ok x.me/\OkI x.clock/\OkF x.joined/\(OkL Entry.Ok) x.pred/\(OkL Entry.Ok) x.list/\(OkL Finger.Ok) x.fingers/\(OkL Pair.Ok) x.store/\(OkL Pend.Ok) x.pends/\(OkL Job.Ok) x.jobs/\(OkL Result.Ok) x.results/\OkW x.rid/\OkI x.jobID/\OkI x.nextBit
theorem rd34{H:Type}{enc:TypeId×Value->H}{w:World}{base:Nat}{spare:Nat->Bool}{held:Bool}{fuel:Nat}{cs:List Value}{x:DataW H×List MemPlace}(h:yan enc Tryz.prog w base spare held fuel 34 cs=some x):∃a,Rd Tryz.prog w zaK Node.Ok cs a:=by
 obtain⟨xs,n,rfl,rfl,hl,hxl,hf⟩:=ybG Tryz.underlying34 h;have hc:cs.length=14:=hl.trans (by kernel_rfl);have hx:xs.length=13:=hxl
 match cs,hc with
 | [c0,c1,c2,c3,c4,c5,c6,c7,c8,c9,c10,c11,c12,c13],_=>
  match xs,hx with
  | [x0,x1,x2,x3,x4,x5,x6,x7,x8,x9,x10,x11,x12],_=>
   have h0:yan enc Tryz.prog w base spare held n 25 [c0,c1]=some x0:=hf 0 _ rfl;obtain⟨a0,d0,o0,k0⟩:=rd25 h0;have h1:yan enc Tryz.prog w base spare held n 3 [c2]=some x1:=hf 1 _ rfl;obtain⟨a1,d1,o1,k1⟩:=zcJ Tryz.underlying3 h1;have h2:yan enc Tryz.prog w base spare held n 4 [c3]=some x2:=hf 2 _ rfl;obtain⟨a2,d2,o2,k2⟩:=zwv Tryz.underlying4 h2;have h3:yan enc Tryz.prog w base spare held n 26 [c4]=some x3:=hf 3 _ rfl;obtain⟨a3,d3,o3,k3⟩:=rd26 h3;have h4:yan enc Tryz.prog w base spare held n 26 [c5]=some x4:=hf 4 _ rfl;obtain⟨a4,d4,o4,k4⟩:=rd26 h4;have h5:yan enc Tryz.prog w base spare held n 27 [c6]=some x5:=hf 5 _ rfl;obtain⟨a5,d5,o5,k5⟩:=rd27 h5;have h6:yan enc Tryz.prog w base spare held n 28 [c7]=some x6:=hf 6 _ rfl;obtain⟨a6,d6,o6,k6⟩:=rd28 h6;have h7:yan enc Tryz.prog w base spare held n 29 [c8]=some x7:=hf 7 _ rfl;obtain⟨a7,d7,o7,k7⟩:=rd29 h7;have h8:yan enc Tryz.prog w base spare held n 30 [c9]=some x8:=hf 8 _ rfl;obtain⟨a8,d8,o8,k8⟩:=rd30 h8;have h9:yan enc Tryz.prog w base spare held n 31 [c10]=some x9:=hf 9 _ rfl;obtain⟨a9,d9,o9,k9⟩:=rd31 h9;have h10:yan enc Tryz.prog w base spare held n 32 [c11]=some x10:=hf 10 _ rfl;obtain⟨a10,d10,o10,k10⟩:=zEJ Tryz.underlying32 h10;have h11:yan enc Tryz.prog w base spare held n 3 [c12]=some x11:=hf 11 _ rfl;obtain⟨a11,d11,o11,k11⟩:=zcJ Tryz.underlying3 h11;have h12:yan enc Tryz.prog w base spare held n 3 [c13]=some x12:=hf 12 _ rfl;obtain⟨a12,d12,o12,k12⟩:=zcJ Tryz.underlying3 h12;refine⟨⟨a0,a1,a2,a3,a4,a5,a6,a7,a8,a9,a10,a11,a12⟩,(d0.append (d1.append (d2.append (d3.append (d4.append (d5.append (d6.append (d7.append (d8.append (d9.append (d10.append (d11.append d12)))))))))))),fun c hc=>?_,k0,k1,k2,k3,k4,k5,k6,k7,k8,k9,k10,k11,k12⟩;have hc:c∈(zad a0).cells++((vI a1).cells++((vF a2).cells++(((eL 55 zab) a3).cells++(((eL 55 zab) a4).cells++(((eL 82 zaa) a5).cells++(((eL 76 zag) a6).cells++(((eL 36 zaI) a7).cells++(((eL 57 eJob) a8).cells++(((eL 74 zaf) a9).cells++((vW a10).cells++((vI a11).cells++((vI a12).cells)))))))))))):=hc;simp only[yal]at hc;rcases hc with hc|hc|hc|hc|hc|hc|hc|hc|hc|hc|hc|hc|hc
   ·exact o0 c hc
   ·exact o1 c hc
   ·exact o2 c hc
   ·exact o3 c hc
   ·exact o4 c hc
   ·exact o5 c hc
   ·exact o6 c hc
   ·exact o7 c hc
   ·exact o8 c hc
   ·exact o9 c hc
   ·exact o10 c hc
   ·exact o11 c hc
   ·exact o12 c hc
theorem arg34{H:Type}{enc:TypeId×Value->H}{w:World}{base:Nat}{spare:Nat->Bool}{held:Bool}{r:Reach}{b0:Nat}{v:Value}{d:DataW H}{ps:List MemPlace}(hval:Value.okWide Tryz.prog w r b0 34 v)(h:DataW.Trod enc Tryz.prog w base spare held 34 v d ps):∃a,DL Tryz.prog w (fun _=>False) [zaK a] [v]/\Node.Ok a:=
 zuI (fun _=>⟨_,rfl⟩) Tryz.underlying34 hval (let⟨_,hf⟩:=h;rd34 hf)
theorem rd37{H:Type}{enc:TypeId×Value->H}{w:World}{base:Nat}{spare:Nat->Bool}{held:Bool}{fuel:Nat}{cs:List Value}{x:DataW H×List MemPlace}(h:yan enc Tryz.prog w base spare held fuel 37 cs=some x):∃l,Rd Tryz.prog w (eL 25 zad) (OkL Peer.Ok) cs l:=
 zkV (size:=2) Tryz.underlying37 (by kernel_rfl) (by omega) (fun a=>rfl) h (fun n cs' y _ hy=>rd25 hy)
theorem arg37{H:Type}{enc:TypeId×Value->H}{w:World}{base:Nat}{spare:Nat->Bool}{held:Bool}{r:Reach}{b0:Nat}{v:Value}{d:DataW H}{ps:List MemPlace}(hval:Value.okWide Tryz.prog w r b0 37 v)(h:DataW.Trod enc Tryz.prog w base spare held 37 v d ps):∃l,DL Tryz.prog w (fun _=>False) [.lit 25 false (List.map zad l)] [v]/\(OkL Peer.Ok) l:=
 zFf Tryz.underlying37 hval (let⟨_,hf⟩:=h;rd37 hf)
end Go.Ab.Tryz
