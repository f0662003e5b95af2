/- Our texts for this statement, merged: what its theorem leads to. -/
import Derived.Test.YtdjoeakbjackbaaGreatDoorChecked
import Derived.Test.YtdjoeakbjackbaaGreatDoorQLx4
import Derived.Test.YtdjoeakbjackbaaGreatDoorQLx5
import Derived.Test.YtdjoeakbjackbaaGreatDoorQLx6
import Derived.Test.YtdjoeakbjackbaaGreatDoorQLx7
import Derived.Test.YtdjoeakbjackbaaGreatDoorQLx8
import Derived.Test.YtdjoeakbjackbaaGreatDoorQLx9
set_option linter.unusedVariables false
set_option linter.unusedSimpArgs false
noncomputable section
namespace Go.Ab.Tryz
open Go Go.Ab Go.Proofs
set_option maxHeartbeats 4000000
def F:FuncId->Option Fn
 |3=>some g3
 |5=>some g5
 |12=>some g12
 |13=>some g13
 |14=>some g14
 |15=>some g15
 |16=>some g16
 |17=>some g17
 |18=>some g18
 |19=>some g19
 |20=>some g20
 |22=>some g22
 |23=>some g23
 |24=>some g24
 |25=>some g25
 |42=>some g42
 |49=>some g49
 |50=>some g50
 |51=>some g51
 |52=>some g52
 |53=>some g53
 |54=>some g54
 |55=>some g55
 |56=>some g56
 |57=>some g57
 |58=>some g58
 |59=>some g59
 |60=>some g60
 |61=>some g61
 |62=>some g62
 |63=>some g63
 |64=>some g64
 |66=>some g66
 |68=>some g68
 |70=>some g70
 |71=>some g71
 |72=>some g72
 |73=>some g73
 |74=>some g74
 |75=>some g75
 |76=>some g76
 |77=>some g77
 |78=>some g78
 |79=>some g79
 |83=>some g83
 |92=>some g92
 |98=>some g98
 |99=>some g99
 |102=>some g102
 |115=>some g115
 |117=>some g117
 |118=>some g118
 |119=>some g119
 |120=>some g120
 |121=>some g121
 |122=>some g122
 |123=>some g123
 |124=>some g124
 |125=>some g125
 |126=>some g126
 |127=>some g127
 |128=>some g128
 |129=>some g129
 |130=>some g130
 |131=>some g131
 |132=>some g132
 |133=>some g133
 |134=>some g134
 |135=>some g135
 |136=>some g136
 |137=>some g137
 |138=>some g138
 |139=>some g139
 |140=>some g140
 |141=>some g141
 |142=>some g142
 |143=>some g143
 |154=>some g154
 |155=>some g155
 |158=>some g158
 |159=>some g159
 |161=>some g161
 |180=>some g180
 |186=>some g186
 |191=>some g191
 |192=>some g192
 |198=>some g198
 |199=>some g199
 |200=>some g200
 |201=>some g201
 |202=>some g202
 |203=>some g203
 |204=>some g204
 |205=>some g205
 |206=>some g206
 |207=>some g207
 |208=>some g208
 |209=>some g209
 |210=>some g210
 |211=>some g211
 |212=>some g212
 |213=>some g213
 |214=>some g214
 |215=>some g215
 |216=>some g216
 |217=>some g217
 |218=>some g218
 |219=>some g219
 |225=>some g225
 |226=>some g226
 |227=>some g227
 |229=>some g229
 |233=>some g233
 |243=>some g243
 |245=>some g245
 |248=>some g248
 |249=>some g249
 |252=>some g252
 |253=>some g253
 |254=>some g254
 |256=>some g256
 |257=>some g257
 |258=>some g258
 |259=>some g259
 |260=>some g260
 |261=>some g261
 |262=>some g262
 |263=>some g263
 |264=>some g264
 |266=>some g266
 |267=>some g267
 |268=>some g268
 |269=>some g269
 |271=>some g271
 |272=>some g272
 |273=>some g273
 |275=>some g275
 |277=>some g277
 |278=>some g278
 |280=>some g280
 |281=>some g281
 |283=>some g283
 |286=>some g286
 |287=>some g287
 |288=>some g288
 |291=>some g291
 |_=>none
theorem F_ok:∀f fn,F f=some fn->∃md fz,zae Tryz.prog md fz f=some fn:=by
 intro f fn h;unfold F at h;split at h
 ·cases h;exact⟨_,_,cmp3⟩
 ·cases h;exact⟨_,_,cmp5⟩
 ·cases h;exact⟨_,_,cmp12⟩
 ·cases h;exact⟨_,_,cmp13⟩
 ·cases h;exact⟨_,_,cmp14⟩
 ·cases h;exact⟨_,_,cmp15⟩
 ·cases h;exact⟨_,_,cmp16⟩
 ·cases h;exact⟨_,_,cmp17⟩
 ·cases h;exact⟨_,_,cmp18⟩
 ·cases h;exact⟨_,_,cmp19⟩
 ·cases h;exact⟨_,_,cmp20⟩
 ·cases h;exact⟨_,_,cmp22⟩
 ·cases h;exact⟨_,_,cmp23⟩
 ·cases h;exact⟨_,_,cmp24⟩
 ·cases h;exact⟨_,_,cmp25⟩
 ·cases h;exact⟨_,_,cmp42⟩
 ·cases h;exact⟨_,_,cmp49⟩
 ·cases h;exact⟨_,_,cmp50⟩
 ·cases h;exact⟨_,_,cmp51⟩
 ·cases h;exact⟨_,_,cmp52⟩
 ·cases h;exact⟨_,_,cmp53⟩
 ·cases h;exact⟨_,_,cmp54⟩
 ·cases h;exact⟨_,_,cmp55⟩
 ·cases h;exact⟨_,_,cmp56⟩
 ·cases h;exact⟨_,_,cmp57⟩
 ·cases h;exact⟨_,_,cmp58⟩
 ·cases h;exact⟨_,_,cmp59⟩
 ·cases h;exact⟨_,_,cmp60⟩
 ·cases h;exact⟨_,_,cmp61⟩
 ·cases h;exact⟨_,_,cmp62⟩
 ·cases h;exact⟨_,_,cmp63⟩
 ·cases h;exact⟨_,_,cmp64⟩
 ·cases h;exact⟨_,_,cmp66⟩
 ·cases h;exact⟨_,_,cmp68⟩
 ·cases h;exact⟨_,_,cmp70⟩
 ·cases h;exact⟨_,_,cmp71⟩
 ·cases h;exact⟨_,_,cmp72⟩
 ·cases h;exact⟨_,_,cmp73⟩
 ·cases h;exact⟨_,_,cmp74⟩
 ·cases h;exact⟨_,_,cmp75⟩
 ·cases h;exact⟨_,_,cmp76⟩
 ·cases h;exact⟨_,_,cmp77⟩
 ·cases h;exact⟨_,_,cmp78⟩
 ·cases h;exact⟨_,_,cmp79⟩
 ·cases h;exact⟨_,_,cmp83⟩
 ·cases h;exact⟨_,_,cmp92⟩
 ·cases h;exact⟨_,_,cmp98⟩
 ·cases h;exact⟨_,_,cmp99⟩
 ·cases h;exact⟨_,_,zNU⟩
 ·cases h;exact⟨_,_,zNV⟩
 ·cases h;exact⟨_,_,zNW⟩
 ·cases h;exact⟨_,_,zNX⟩
 ·cases h;exact⟨_,_,zNY⟩
 ·cases h;exact⟨_,_,zNZ⟩
 ·cases h;exact⟨_,_,zN0⟩
 ·cases h;exact⟨_,_,zN1⟩
 ·cases h;exact⟨_,_,zN2⟩
 ·cases h;exact⟨_,_,zN3⟩
 ·cases h;exact⟨_,_,zN4⟩
 ·cases h;exact⟨_,_,zN5⟩
 ·cases h;exact⟨_,_,zN6⟩
 ·cases h;exact⟨_,_,zN7⟩
 ·cases h;exact⟨_,_,zN8⟩
 ·cases h;exact⟨_,_,zN9⟩
 ·cases h;exact⟨_,_,zOa⟩
 ·cases h;exact⟨_,_,zOb⟩
 ·cases h;exact⟨_,_,zOc⟩
 ·cases h;exact⟨_,_,zOd⟩
 ·cases h;exact⟨_,_,zOe⟩
 ·cases h;exact⟨_,_,zOf⟩
 ·cases h;exact⟨_,_,zOg⟩
 ·cases h;exact⟨_,_,zOh⟩
 ·cases h;exact⟨_,_,zOi⟩
 ·cases h;exact⟨_,_,zOj⟩
 ·cases h;exact⟨_,_,zOk⟩
 ·cases h;exact⟨_,_,zOl⟩
 ·cases h;exact⟨_,_,zOm⟩
 ·cases h;exact⟨_,_,zOn⟩
 ·cases h;exact⟨_,_,zOo⟩
 ·cases h;exact⟨_,_,zOp⟩
 ·cases h;exact⟨_,_,zOq⟩
 ·cases h;exact⟨_,_,zOr⟩
 ·cases h;exact⟨_,_,zOs⟩
 ·cases h;exact⟨_,_,zOt⟩
 ·cases h;exact⟨_,_,zOu⟩
 ·cases h;exact⟨_,_,zOv⟩
 ·cases h;exact⟨_,_,zOw⟩
 ·cases h;exact⟨_,_,zOx⟩
 ·cases h;exact⟨_,_,zOy⟩
 ·cases h;exact⟨_,_,zOz⟩
 ·cases h;exact⟨_,_,zOA⟩
 ·cases h;exact⟨_,_,zOB⟩
 ·cases h;exact⟨_,_,zOC⟩
 ·cases h;exact⟨_,_,zOD⟩
 ·cases h;exact⟨_,_,zOE⟩
 ·cases h;exact⟨_,_,zOF⟩
 ·cases h;exact⟨_,_,zOG⟩
 ·cases h;exact⟨_,_,zOH⟩
 ·cases h;exact⟨_,_,zOI⟩
 ·cases h;exact⟨_,_,zOJ⟩
 ·cases h;exact⟨_,_,zOK⟩
 ·cases h;exact⟨_,_,zOL⟩
 ·cases h;exact⟨_,_,zOM⟩
 ·cases h;exact⟨_,_,zON⟩
 ·cases h;exact⟨_,_,zOO⟩
 ·cases h;exact⟨_,_,zOP⟩
 ·cases h;exact⟨_,_,zOQ⟩
 ·cases h;exact⟨_,_,zOR⟩
 ·cases h;exact⟨_,_,zOS⟩
 ·cases h;exact⟨_,_,zOT⟩
 ·cases h;exact⟨_,_,zOU⟩
 ·cases h;exact⟨_,_,zOV⟩
 ·cases h;exact⟨_,_,zOW⟩
 ·cases h;exact⟨_,_,zOX⟩
 ·cases h;exact⟨_,_,zOY⟩
 ·cases h;exact⟨_,_,zOZ⟩
 ·cases h;exact⟨_,_,zO0⟩
 ·cases h;exact⟨_,_,zO1⟩
 ·cases h;exact⟨_,_,zO2⟩
 ·cases h;exact⟨_,_,zO3⟩
 ·cases h;exact⟨_,_,zO4⟩
 ·cases h;exact⟨_,_,zO5⟩
 ·cases h;exact⟨_,_,zO6⟩
 ·cases h;exact⟨_,_,zO7⟩
 ·cases h;exact⟨_,_,zO8⟩
 ·cases h;exact⟨_,_,zO9⟩
 ·cases h;exact⟨_,_,zPa⟩
 ·cases h;exact⟨_,_,zPb⟩
 ·cases h;exact⟨_,_,zPc⟩
 ·cases h;exact⟨_,_,zPd⟩
 ·cases h;exact⟨_,_,zPe⟩
 ·cases h;exact⟨_,_,zCh⟩
 ·cases h;exact⟨_,_,zCi⟩
 ·cases h;exact⟨_,_,zPf⟩
 ·cases h;exact⟨_,_,zPg⟩
 ·cases h;exact⟨_,_,zPh⟩
 ·cases h;exact⟨_,_,zPi⟩
 ·cases h;exact⟨_,_,zPj⟩
 ·cases h;exact⟨_,_,zPk⟩
 ·cases h;exact⟨_,_,zPl⟩
 ·cases h;exact⟨_,_,zPm⟩
 ·cases h;exact⟨_,_,zPn⟩
 ·cases h;exact⟨_,_,zPo⟩
 ·cases h;exact⟨_,_,zPp⟩
 ·cases h;exact⟨_,_,zPq⟩
 ·cases h;exact⟨_,_,zPr⟩
 ·cases h
end Go.Ab.Tryz
namespace Go.Ab.Tryz
open Go Go.Ab Go.Proofs
set_option maxRecDepth 10000
set_option maxHeartbeats 4000000
open Go.Value.bool renaming injEq->ybg
open Go.Value.int renaming injEq->ybk
open Go.Value.string renaming injEq->ya7
open List renaming map->yab,map_cons->yaT,map_nil->ybW
open List.cons renaming injEq->ya0
structure Peer where
 id:Int
 addr:Int
 deriving DecidableEq
def zad(x:Peer):AV:=.agg [vU x.id,vH x.addr]
theorem Peer.ext'{a b:Peer}:a=b<->a.id=b.id/\a.addr=b.addr:=by cases a;cases b;simp
instance :Inj zad:=⟨fun a b h=>by
 obtain⟨_,_⟩:=a;obtain⟨_,_⟩:=b
 simp only[zad,AV.agg.injEq,ya0,AV.sc.injEq,ybk,ybg,ya7,AV.lit.injEq,zd1,and_true,true_and,and_assoc]at h
 simp only[Peer.mk.injEq,and_assoc];simpa only[Peer.mk.injEq,and_assoc]using h⟩
theorem zIz{a b:Peer}:zad a=zad b<->a=b:=⟨Inj.inj a b,fun h=>by rw[h]⟩
structure Entry where
 peer:Peer
 misses:Int
 deriving DecidableEq
def zaa(x:Entry):AV:=.agg [vU x.peer.id,vH x.peer.addr,vI x.misses]
theorem Entry.ext'{a b:Entry}:a=b<->a.peer=b.peer/\a.misses=b.misses:=by cases a;cases b;simp
instance :Inj zaa:=⟨fun a b h=>by
 obtain⟨⟨_,_⟩,_⟩:=a;obtain⟨⟨_,_⟩,_⟩:=b
 simp only[zaa,AV.agg.injEq,ya0,AV.sc.injEq,ybk,ybg,ya7,AV.lit.injEq,zd1,and_true,true_and,and_assoc]at h
 simp_all⟩
theorem zGm{a b:Entry}:zaa a=zaa b<->a=b:=⟨Inj.inj a b,fun h=>by rw[h]⟩
structure Finger where
 bit:Int
 peer:Peer
 deriving DecidableEq
def zab(x:Finger):AV:=.agg [vI x.bit,vU x.peer.id,vH x.peer.addr]
theorem Finger.ext'{a b:Finger}:a=b<->a.bit=b.bit/\a.peer=b.peer:=by cases a;cases b;simp
instance :Inj zab:=⟨fun a b h=>by
 obtain⟨_,⟨_,_⟩⟩:=a;obtain⟨_,⟨_,_⟩⟩:=b
 simp only[zab,AV.agg.injEq,ya0,AV.sc.injEq,ybk,ybg,ya7,AV.lit.injEq,zd1,and_true,true_and,and_assoc]at h
 simp_all⟩
theorem zDW{a b:Finger}:zab a=zab b<->a=b:=⟨Inj.inj a b,fun h=>by rw[h]⟩
structure Pair where
 key:ByteArray
 val:ByteArray
 deriving DecidableEq
def zag(x:Pair):AV:=.agg [vT x.key,vT x.val]
theorem Pair.ext'{a b:Pair}:a=b<->a.key=b.key/\a.val=b.val:=by cases a;cases b;simp
instance :Inj zag:=⟨fun a b h=>by
 obtain⟨_,_⟩:=a;obtain⟨_,_⟩:=b
 simp only[zag,AV.agg.injEq,ya0,AV.sc.injEq,ybk,ybg,ya7,AV.lit.injEq,zd1,and_true,true_and,and_assoc]at h
 simp only[Pair.mk.injEq,and_assoc];simpa only[Pair.mk.injEq,and_assoc]using h⟩
theorem zIy{a b:Pair}:zag a=zag b<->a=b:=⟨Inj.inj a b,fun h=>by rw[h]⟩
structure Pend where
 rid:Int
 kind:Int
 why:Int
 job:Int
 to_:Peer
 due:Int
 deriving DecidableEq
def zaL(x:Pend):AV:=.agg [vW x.rid,vI x.kind,vI x.why,vI x.job,vU x.to_.id,vH x.to_.addr,vI x.due]
theorem Pend.ext'{a b:Pend}:a=b<->a.rid=b.rid/\a.kind=b.kind/\a.why=b.why/\a.job=b.job/\a.to_=b.to_/\a.due=b.due:=by cases a;cases b;simp
instance :Inj zaL:=⟨fun a b h=>by
 obtain⟨_,_,_,_,⟨_,_⟩,_⟩:=a;obtain⟨_,_,_,_,⟨_,_⟩,_⟩:=b
 simp only[zaL,AV.agg.injEq,ya0,AV.sc.injEq,ybk,ybg,ya7,AV.lit.injEq,zd1,and_true,true_and,and_assoc]at h
 simp_all⟩
theorem zIA{a b:Pend}:zaL a=zaL b<->a=b:=⟨Inj.inj a b,fun h=>by rw[h]⟩
structure Job where
 id:Int
 kind:Int
 bit:Int
 key:ByteArray
 val:ByteArray
 target:Int
 via:Peer
 at_:Peer
 doing:Bool
 hops:Int
 tries:Int
 due:Int
 deriving DecidableEq
def eJob(x:Job):AV:=.agg [vI x.id,vI x.kind,vI x.bit,vT x.key,vT x.val,vU x.target,vU x.via.id,vH x.via.addr,vU x.at_.id,vH x.at_.addr,vF x.doing,vI x.hops,vI x.tries,vI x.due]
theorem Job.ext'{a b:Job}:a=b<->a.id=b.id/\a.kind=b.kind/\a.bit=b.bit/\a.key=b.key/\a.val=b.val/\a.target=b.target/\a.via=b.via/\a.at_=b.at_/\a.doing=b.doing/\a.hops=b.hops/\a.tries=b.tries/\a.due=b.due:=by cases a;cases b;simp
instance :Inj eJob:=⟨fun a b h=>by
 obtain⟨_,_,_,_,_,_,⟨_,_⟩,⟨_,_⟩,_,_,_,_⟩:=a;obtain⟨_,_,_,_,_,_,⟨_,_⟩,⟨_,_⟩,_,_,_,_⟩:=b
 simp only[eJob,AV.agg.injEq,ya0,AV.sc.injEq,ybk,ybg,ya7,AV.lit.injEq,zd1,and_true,true_and,and_assoc]at h
 simp_all⟩
theorem zJ9{a b:Job}:eJob a=eJob b<->a=b:=⟨Inj.inj a b,fun h=>by rw[h]⟩
def cJob(x:Job):List AV:=[vI x.id,vI x.kind,vI x.bit,vT x.key,vT x.val,vU x.target,vU x.via.id,vH x.via.addr,vU x.at_.id,vH x.at_.addr,vF x.doing,vI x.hops,vI x.tries,vI x.due]
theorem zB5{a b:Job}:cJob a=cJob b<->a=b:=⟨fun h=>Inj.inj (e:=eJob) a b (congrArg AV.agg h),fun h=>by rw[h]⟩
theorem zJU{a b:Job}{l l':List AV}:capp (cJob a) l=capp (cJob b) l'<->a=b/\l=l':=⟨fun h=>by rw[zlE,zlE]at h;obtain⟨h1,h2⟩:=List.append_inj h rfl;exact⟨zB5.1 h1,h2⟩,fun h=>by rw[h.1,h.2]⟩
structure Result where
 job:Int
 kind:Int
 key:ByteArray
 val:ByteArray
 has:Bool
 err:Int
 deriving DecidableEq
def zaj(x:Result):AV:=.agg [vI x.job,vI x.kind,vT x.key,vT x.val,vF x.has,vI x.err]
theorem Result.ext'{a b:Result}:a=b<->a.job=b.job/\a.kind=b.kind/\a.key=b.key/\a.val=b.val/\a.has=b.has/\a.err=b.err:=by cases a;cases b;simp
instance :Inj zaj:=⟨fun a b h=>by
 obtain⟨_,_,_,_,_,_⟩:=a;obtain⟨_,_,_,_,_,_⟩:=b
 simp only[zaj,AV.agg.injEq,ya0,AV.sc.injEq,ybk,ybg,ya7,AV.lit.injEq,zd1,and_true,true_and,and_assoc]at h
 simp only[Result.mk.injEq,and_assoc];simpa only[Result.mk.injEq,and_assoc]using h⟩
theorem zDX{a b:Result}:zaj a=zaj b<->a=b:=⟨Inj.inj a b,fun h=>by rw[h]⟩
structure Node where
 me:Peer
 clock:Int
 joined:Bool
 pred:List Entry
 list:List Entry
 fingers:List Finger
 store:List Pair
 pends:List Pend
 jobs:List Job
 results:List Result
 rid:Int
 jobID:Int
 nextBit:Int
 deriving DecidableEq
def zaI(x:Node):AV:=.agg [vU x.me.id,vH x.me.addr,vI x.clock,vF x.joined,.lit 55 false (yab zaa x.pred),.lit 55 false (yab zaa x.list),.lit 82 false (yab zab x.fingers),.lit 76 false (yab zag x.store),.lit 36 false (yab zaL x.pends),.lit 57 false (yab eJob x.jobs),.lit 74 false (yab zaj x.results),vW x.rid,vI x.jobID,vI x.nextBit]
theorem Node.ext'{a b:Node}:a=b<->a.me=b.me/\a.clock=b.clock/\a.joined=b.joined/\a.pred=b.pred/\a.list=b.list/\a.fingers=b.fingers/\a.store=b.store/\a.pends=b.pends/\a.jobs=b.jobs/\a.results=b.results/\a.rid=b.rid/\a.jobID=b.jobID/\a.nextBit=b.nextBit:=by cases a;cases b;simp
instance :Inj zaI:=⟨fun a b h=>by
 obtain⟨⟨_,_⟩,_,_,_,_,_,_,_,_,_,_,_,_⟩:=a;obtain⟨⟨_,_⟩,_,_,_,_,_,_,_,_,_,_,_,_⟩:=b
 simp only[zaI,AV.agg.injEq,ya0,AV.sc.injEq,ybk,ybg,ya7,AV.lit.injEq,zd1,and_true,true_and,and_assoc]at h
 simp_all⟩
theorem zIx{a b:Node}:zaI a=zaI b<->a=b:=⟨Inj.inj a b,fun h=>by rw[h]⟩
def zah(x:Node):List AV:=[vU x.me.id,vH x.me.addr,vI x.clock,vF x.joined,.lit 55 false (yab zaa x.pred),.lit 55 false (yab zaa x.list),.lit 82 false (yab zab x.fingers),.lit 76 false (yab zag x.store),.lit 36 false (yab zaL x.pends),.lit 57 false (yab eJob x.jobs),.lit 74 false (yab zaj x.results),vW x.rid,vI x.jobID,vI x.nextBit]
theorem zAa{a b:Node}:zah a=zah b<->a=b:=⟨fun h=>Inj.inj (e:=zaI) a b (congrArg AV.agg h),fun h=>by rw[h]⟩
theorem zIn{a b:Node}{l l':List AV}:capp (zah a) l=capp (zah b) l'<->a=b/\l=l':=⟨fun h=>by rw[zlE,zlE]at h;obtain⟨h1,h2⟩:=List.append_inj h rfl;exact⟨zAa.1 h1,h2⟩,fun h=>by rw[h.1,h.2]⟩
def zau(x:Node)(u6:AV):List AV:=[vU x.me.id,vH x.me.addr,vI x.clock,vF x.joined,.lit 55 false (yab zaa x.pred),.lit 55 false (yab zaa x.list),u6,.lit 76 false (yab zag x.store),.lit 36 false (yab zaL x.pends),.lit 57 false (yab eJob x.jobs),.lit 74 false (yab zaj x.results),vW x.rid,vI x.jobID,vI x.nextBit]
theorem zqN{a b:Node}{u6 v6:AV}:zau a u6=zau b v6<->(a.me=b.me/\a.clock=b.clock/\a.joined=b.joined/\a.pred=b.pred/\a.list=b.list/\a.store=b.store/\a.pends=b.pends/\a.jobs=b.jobs/\a.results=b.results/\a.rid=b.rid/\a.jobID=b.jobID/\a.nextBit=b.nextBit)/\u6=v6:=by
 obtain⟨⟨_,_⟩,_,_,_,_,_,_,_,_,_,_,_,_⟩:=a;obtain⟨⟨_,_⟩,_,_,_,_,_,_,_,_,_,_,_,_⟩:=b;simp only[zau,AV.agg.injEq,ya0,AV.sc.injEq,ybk,ybg,ya7,AV.lit.injEq,zd1,and_true,true_and,and_assoc];constructor<;>(intro h;simp_all)
theorem zDO{a b:Node}{u6 v6:AV}{l l':List AV}:capp (zau a u6) l=capp (zau b v6) l'<->((a.me=b.me/\a.clock=b.clock/\a.joined=b.joined/\a.pred=b.pred/\a.list=b.list/\a.store=b.store/\a.pends=b.pends/\a.jobs=b.jobs/\a.results=b.results/\a.rid=b.rid/\a.jobID=b.jobID/\a.nextBit=b.nextBit)/\u6=v6)/\l=l':=⟨fun h=>by rw[zlE,zlE]at h;obtain⟨h1,h2⟩:=List.append_inj h rfl;exact⟨zqN.1 h1,h2⟩,fun h=>by rw[zqN.2 h.1,h.2]⟩
theorem zGh{a b:Node}{k6 g6:Nat}{l l':List AV}:(capp (zah a) l=capp (zau b (.sl k6 g6)) l')<->False:=by simp[zah,zau,capp]
theorem zGi{a b:Node}{k6 g6:Nat}{l l':List AV}:(capp (zau b (.sl k6 g6)) l'=capp (zah a) l)<->False:=by simp[zah,zau,capp]
structure Msg where
 kind:Int
 rid:Int
 code:Int
 has:Bool
 id:Int
 key:ByteArray
 val:ByteArray
 peer:Peer
 peers:List Peer
 pairs:List Pair
 deriving DecidableEq
def eMsg(x:Msg):AV:=.agg [vI x.kind,vW x.rid,vB x.code,vF x.has,vU x.id,vT x.key,vT x.val,vU x.peer.id,vH x.peer.addr,.lit 25 false (yab zad x.peers),.lit 76 false (yab zag x.pairs)]
theorem Msg.ext'{a b:Msg}:a=b<->a.kind=b.kind/\a.rid=b.rid/\a.code=b.code/\a.has=b.has/\a.id=b.id/\a.key=b.key/\a.val=b.val/\a.peer=b.peer/\a.peers=b.peers/\a.pairs=b.pairs:=by cases a;cases b;simp
instance :Inj eMsg:=⟨fun a b h=>by
 obtain⟨_,_,_,_,_,_,_,⟨_,_⟩,_,_⟩:=a;obtain⟨_,_,_,_,_,_,_,⟨_,_⟩,_,_⟩:=b
 simp only[eMsg,AV.agg.injEq,ya0,AV.sc.injEq,ybk,ybg,ya7,AV.lit.injEq,zd1,and_true,true_and,and_assoc]at h
 simp_all⟩
theorem zKa{a b:Msg}:eMsg a=eMsg b<->a=b:=⟨Inj.inj a b,fun h=>by rw[h]⟩
def cMsg(x:Msg):List AV:=[vI x.kind,vW x.rid,vB x.code,vF x.has,vU x.id,vT x.key,vT x.val,vU x.peer.id,vH x.peer.addr,.lit 25 false (yab zad x.peers),.lit 76 false (yab zag x.pairs)]
theorem zB6{a b:Msg}:cMsg a=cMsg b<->a=b:=⟨fun h=>Inj.inj (e:=eMsg) a b (congrArg AV.agg h),fun h=>by rw[h]⟩
theorem zJV{a b:Msg}{l l':List AV}:capp (cMsg a) l=capp (cMsg b) l'<->a=b/\l=l':=⟨fun h=>by rw[zlE,zlE]at h;obtain⟨h1,h2⟩:=List.append_inj h rfl;exact⟨zB6.1 h1,h2⟩,fun h=>by rw[h.1,h.2]⟩
structure Out where
 to_:Peer
 msg:Msg
 deriving DecidableEq
def eOut(x:Out):AV:=.agg [vU x.to_.id,vH x.to_.addr,vI x.msg.kind,vW x.msg.rid,vB x.msg.code,vF x.msg.has,vU x.msg.id,vT x.msg.key,vT x.msg.val,vU x.msg.peer.id,vH x.msg.peer.addr,.lit 25 false (yab zad x.msg.peers),.lit 76 false (yab zag x.msg.pairs)]
theorem Out.ext'{a b:Out}:a=b<->a.to_=b.to_/\a.msg=b.msg:=by cases a;cases b;simp
instance :Inj eOut:=⟨fun a b h=>by
 obtain⟨⟨_,_⟩,⟨_,_,_,_,_,_,_,⟨_,_⟩,_,_⟩⟩:=a;obtain⟨⟨_,_⟩,⟨_,_,_,_,_,_,_,⟨_,_⟩,_,_⟩⟩:=b
 simp only[eOut,AV.agg.injEq,ya0,AV.sc.injEq,ybk,ybg,ya7,AV.lit.injEq,zd1,and_true,true_and,and_assoc]at h
 simp_all⟩
theorem zKb{a b:Out}:eOut a=eOut b<->a=b:=⟨Inj.inj a b,fun h=>by rw[h]⟩
structure Work_work where
 node:Node
 job:Job
 out:List Out
 deriving DecidableEq
def zbE(x:Work_work):AV:=.agg [vU x.node.me.id,vH x.node.me.addr,vI x.node.clock,vF x.node.joined,.lit 55 false (yab zaa x.node.pred),.lit 55 false (yab zaa x.node.list),.lit 82 false (yab zab x.node.fingers),.lit 76 false (yab zag x.node.store),.lit 36 false (yab zaL x.node.pends),.lit 57 false (yab eJob x.node.jobs),.lit 74 false (yab zaj x.node.results),vW x.node.rid,vI x.node.jobID,vI x.node.nextBit,vI x.job.id,vI x.job.kind,vI x.job.bit,vT x.job.key,vT x.job.val,vU x.job.target,vU x.job.via.id,vH x.job.via.addr,vU x.job.at_.id,vH x.job.at_.addr,vF x.job.doing,vI x.job.hops,vI x.job.tries,vI x.job.due,.lit 78 false (yab eOut x.out)]
theorem Work_work.ext'{a b:Work_work}:a=b<->a.node=b.node/\a.job=b.job/\a.out=b.out:=by cases a;cases b;simp
instance :Inj zbE:=⟨fun a b h=>by
 obtain⟨⟨⟨_,_⟩,_,_,_,_,_,_,_,_,_,_,_,_⟩,⟨_,_,_,_,_,_,⟨_,_⟩,⟨_,_⟩,_,_,_,_⟩,_⟩:=a;obtain⟨⟨⟨_,_⟩,_,_,_,_,_,_,_,_,_,_,_,_⟩,⟨_,_,_,_,_,_,⟨_,_⟩,⟨_,_⟩,_,_,_,_⟩,_⟩:=b
 simp only[zbE,AV.agg.injEq,ya0,AV.sc.injEq,ybk,ybg,ya7,AV.lit.injEq,zd1,and_true,true_and,and_assoc]at h
 simp_all⟩
theorem zzp{a b:Work_work}:zbE a=zbE b<->a=b:=⟨Inj.inj a b,fun h=>by rw[h]⟩
theorem inj_{p:Prop} (q:p:=by
 first|rfl|((try simp only[Prod.mk.injEq,St.mk.injEq,List.cons.injEq,AV.sc.injEq,AV.agg.injEq,AV.tup.injEq,AV.lit.injEq,AV.sl.injEq,AV.sub.injEq,AV.rptr.injEq,AV.lptr.injEq,AV.bptr.injEq,AV.fn.injEq,Ent.box.injEq,Ent.row.injEq,Ent.it.injEq,Value.int.injEq,Value.bool.injEq,Value.string.injEq,zNS,zd1,zPt,and_true,true_and,and_assoc,reduceCtorEq,false_and,and_false,zIz,zGm,zDW,zIy,zIA,zJ9,zDX,zIx,zKa,zKb,zzp,zB5,zJU,zAa,zIn,zB6,zJV,zqN,zDO,zGh,zGi]at h)<;>simp_all[Node.ext'])):p:=q
theorem ij_{p:Prop} (q:p:=by
 try intro(γ:Nat->Nat) (δ:Nat->Nat)
 simp only[Prod.forall,Sum.forall]
 repeat' first|apply And.intro |intro
 all_goals (rename_i h;exact inj_)):p:=q
abbrev IF_:Ifc:=⟨Ops.std,(lim F pr).call,(lim F pr).loop,pr,(lim F pr).seg⟩
theorem fin_{p:Prop} (h:p:=by
 try dsimp only[bd,gam,xlen,xget,xsub,zar,zcF,zwM,xsapp,ztQ,xsofb,xcut,xsrt,eL,zad,zaa,zab,zag,zaL,eJob,zaj,zaI,eMsg,eOut,zbE,cJob,zah,cMsg,zau,capp]at *
 try simp only[zNh,map_set,zNj,zNi,zGF,List.map_cons,List.map_nil]at *
 try dsimp only[zad,zaa,zab,zag,zaL,eJob,zaj,zaI,eMsg,eOut,zbE,cJob,zah,cMsg,zau,capp]at *
 try simp only[List.map_cons,List.map_nil]at *
 unfold IF_;generalize (lim F pr).call=call at *
 generalize (lim F pr).loop=loop at *
 generalize (lim F pr).seg=seg at *
 try generalize List.map (eL 76 zag)=m0 at *
 try generalize List.map zaa=m1 at *
 try generalize List.map zab=m2 at *
 try generalize List.map eJob=m3 at *
 try generalize List.map eOut=m4 at *
 try generalize List.map zag=m5 at *
 try generalize List.map zad=m6 at *
 try generalize List.map zaL=m7 at *
 try generalize List.map zaj=m8 at *
 try generalize List.map vT=m9 at *
 generalize Ops.std=o at *
 cases o
 try dsimp only at *
 repeat ((try cbv);first|rw[h0]|rw[h1]|rw[h2]|rw[h3]|rw[h4]|rw[h5]|rw[h6]|rw[h7]|rw[h8]|rw[h9]|rw[h10]|rw[h11]|rw[h12]|rw[h13]|rw[h14]|rw[h15]|rw[h16]|rw[h17]|rw[h18]|rw[h19]|rw[h20]|rw[h21]|rw[h22]|rw[h23]|rw[h24]|rw[h25]|rw[h26]|rw[h27]|rw[h28]|rw[h29]|rw[h30]|rw[h31]|rw[h32]|rw[h33]|rw[h34]|rw[h35]|rw[h36]|rw[h37]|rw[h38]|rw[h39]|rw[h40]|rw[h41]|rw[h42]|rw[h43]|rw[h44]|rw[h45]|rw[h46]|rw[h47]|rw[h48]|rw[h49]|rw[h50]|rw[h51]|rw[h52]|rw[h53]|rw[h54]|rw[h55]|rw[h56]|rw[h57]|rw[h58]|rw[h59]|rw[h60]|rw[h61]|rw[h62]|rw[h63]|rw[h64]|rw[h65]|rw[h66]|rw[h67]|rw[h68]|rw[h69]|rw[h70])
 try cbv):p:=h
def zpP(n:Node)(p:Pend)(m:Msg):Option (Bool):=ask (R1 vF) ((lim F pr).call 3 [zaI n,zaL p,eMsg m] [])
def zup(n:Node)(p:Pend)(m:Msg):Option (Bool):=ask (R1 vF) ((lim F pr).call 5 [zaI n,zaL p,eMsg m] [])
def zqI(n:Node):Option (Bool):=ask (R1 vF) ((lim F pr).call 12 [zaI n] [])
def zfD:Option (Bool):=ask (R1 vF) ((lim F pr).call 14 [] [])
def zqH(m:Msg):Option (Bool):=ask (R1 vF) ((lim F pr).call 13 [eMsg m] [])
abbrev zqY:=(Int×Int×Int×Bool×(List Entry)×(List Entry)×(List Finger)×(List Pair)×(List Pend)×(List Job)×(List Result)×Int×Int×Int)
def zbr:zqY->AV×Store
 |(a0,a1,a2,a3,a4,a5,a6,a7,a8,a9,a10,a11,a12,a13)=>(.agg [vU a0,vH a1,vI a2,vF a3,.sl 0 0,.sl 1 0,.sl 2 0,.sl 3 0,.sl 4 0,.sl 5 0,.sl 6 0,vW a11,vI a12,vI a13],[.row 55 0 false (yab zaa a4),.row 55 0 false (yab zaa a5),.row 82 0 false (yab zab a6),.row 76 0 false (yab zag a7),.row 36 0 false (yab zaL a8),.row 57 0 false (yab eJob a9),.row 74 0 false (yab zaj a10)])
instance :Inj zbr:=⟨by unfold zbr;exact ij_⟩
def zc1(n:Node):Option (zqY):=ask zbr ((lim F pr).call 15 [zaI n] [])
def zjO(n:Node)(p:Pend)(m:Msg):Option ((Node×(List Out))):=ask (R2 zaI (eL 78 eOut)) ((lim F pr).call 16 [zaI n,zaL p,eMsg m] [])
def zpG(n:Node)(p:Pend)(m:Msg):Option ((Node×(List Out))):=ask (R2 zaI (eL 78 eOut)) ((lim F pr).call 17 [zaI n,zaL p,eMsg m] [])
def zna(a:Node)(b:Node):Option (Bool):=ask (R1 vF) ((lim F pr).call 18 [zaI a,zaI b] [])
def zpz(a:List Out)(b:List Out):Option (Bool):=ask (R1 vF) ((lim F pr).call 19 [.lit 78 false (yab eOut a),.lit 78 false (yab eOut b)] [])
def zqX(me:Peer)(l:List Entry):Option (Bool):=ask (R1 vF) ((lim F pr).call 24 [zad me,.lit 55 false (yab zaa l)] [])
def zpl(n:Node)(p:Pend):Option ((Node×(List Out))):=ask (R2 zaI (eL 78 eOut)) ((lim F pr).call 20 [zaI n,zaL p] [])
def zeq(l:List Entry)(addr:Int):Option (Int):=ask (R1 vI) ((lim F pr).call 25 [.lit 55 false (yab zaa l),vH addr] [])
def zvU(l:List Pair):Option (Bool):=ask (R1 vF) ((lim F pr).call 42 [.lit 76 false (yab zag l)] [])
def zn3(me:Peer)(l:List Entry)(p:Peer):Option ((List Entry)):=ask (R1 (eL 55 zaa)) ((lim F pr).call 49 [zad me,.lit 55 false (yab zaa l),zad p] [])
def zgi(zan:Int)(zai:Int):Bool->AV×Store
 |a0=>(vF a0,[.box 25 [vU zan,vH zai]])
instance {zan zai}:Inj (zgi zan zai):=⟨by unfold zgi;exact ij_⟩
def zpj(x:Entry)(zan:Int)(zai:Int):Option (Bool):=ask (zgi zan zai) ((lim F pr).call 71 [zaa x,.bptr 0 0] [.box 25 [vU zan,vH zai]])
def zc9(zan:Int)(zai:Int):Int->AV×Store
 |a0=>(vI a0,[.box 25 [vU zan,vH zai]])
instance {zan zai}:Inj (zc9 zan zai):=⟨by unfold zc9;exact ij_⟩
def zkn(s:List Entry)(zan:Int)(zai:Int):Option (Int):=ask (zc9 zan zai) ((lim F pr).call 77 [.lit 55 false (yab zaa s),.fn 71 [.bptr 0 0]] [.box 25 [vU zan,vH zai]])
def zcG(zan:Int)(zai:Int):Bool->AV×Store
 |a0=>(vF a0,[.box 25 [vU zan,vH zai]])
instance {zan zai}:Inj (zcG zan zai):=⟨by unfold zcG;exact ij_⟩
def ziD(s:List Entry)(zan:Int)(zai:Int):Option (Bool):=ask (zcG zan zai) ((lim F pr).call 70 [.lit 55 false (yab zaa s),.fn 71 [.bptr 0 0]] [.box 25 [vU zan,vH zai]])
def zxx(l:List Pend)(why:Int)(addr:Int):Option (Bool):=ask (R1 vF) ((lim F pr).call 72 [.lit 36 false (yab zaL l),vI why,vH addr] [])
def zi1(n:Node)(to_:Peer)(m:Msg)(why:Int)(job:Int):Option ((Node×(List Out))):=ask (R2 zaI (eL 78 eOut)) ((lim F pr).call 73 [zaI n,zad to_,eMsg m,vI why,vI job] [])
def ziX(γ:Nat->Nat):(Node×(List Out))->AV×Store
 |(a0,a1)=>(.tup [zaI a0,.sl 0 (γ 0)],[.row 78 (γ 0) false (yab eOut a1)])
instance :InjS ziX:=⟨by unfold ziX;exact ij_⟩
def zoO(n:Node)(l:List Peer):Option ((Node×(List Out))):=asks (fun γ=>(lim F pr).call 22 [zaI n,.lit 25 false (yab zad l)] []) ziX
def zkj(n:Node)(id:Int)(m:Msg):Option ((Node×(List Out))):=ask (R2 zaI (eL 78 eOut)) ((lim F pr).call 50 [zaI n,vI id,eMsg m] [])
def zlO(n:Node)(id:Int)(m:Msg):Option ((Node×(List Out))):=ask (R2 zaI (eL 78 eOut)) ((lim F pr).call 51 [zaI n,vI id,eMsg m] [])
def zsk(me:Peer)(l:List Entry)(p:Peer):Option ((List Entry)):=ask (R1 (eL 55 zaa)) ((lim F pr).call 52 [zad me,.lit 55 false (yab zaa l),zad p] [])
def zzR(l:List Pend)(why:Int)(addr:Int):Option (Bool):=ask (R1 vF) ((lim F pr).call 74 [.lit 36 false (yab zaL l),vI why,vH addr] [])
def zil(n:Node)(to_:Peer)(m:Msg)(why:Int)(job:Int):Option ((Node×(List Out))):=ask (R2 zaI (eL 78 eOut)) ((lim F pr).call 75 [zaI n,zad to_,eMsg m,vI why,vI job] [])
def zmj(γ:Nat->Nat):(Node×(List Out))->AV×Store
 |(a0,a1)=>(.tup [zaI a0,.sl 0 (γ 0)],[.row 78 (γ 0) false (yab eOut a1)])
instance :InjS zmj:=⟨by unfold zmj;exact ij_⟩
def ztE(n:Node)(l:List Peer):Option ((Node×(List Out))):=asks (fun γ=>(lim F pr).call 23 [zaI n,.lit 25 false (yab zad l)] []) zmj
def zlM(n:Node)(id:Int)(m:Msg):Option ((Node×(List Out))):=ask (R2 zaI (eL 78 eOut)) ((lim F pr).call 53 [zaI n,vI id,eMsg m] [])
def znb(n:Node)(id:Int)(m:Msg):Option ((Node×(List Out))):=ask (R2 zaI (eL 78 eOut)) ((lim F pr).call 54 [zaI n,vI id,eMsg m] [])
def ztn(a:List Entry)(b:List Entry):Option (Bool):=ask (R1 vF) ((lim F pr).call 55 [.lit 55 false (yab zaa a),.lit 55 false (yab zaa b)] [])
def zxC(a:List Finger)(b:List Finger):Option (Bool):=ask (R1 vF) ((lim F pr).call 56 [.lit 82 false (yab zab a),.lit 82 false (yab zab b)] [])
def zqp(a:List Pair)(b:List Pair):Option (Bool):=ask (R1 vF) ((lim F pr).call 57 [.lit 76 false (yab zag a),.lit 76 false (yab zag b)] [])
def zvw(a:List Pend)(b:List Pend):Option (Bool):=ask (R1 vF) ((lim F pr).call 58 [.lit 36 false (yab zaL a),.lit 36 false (yab zaL b)] [])
def zxD(a:Node)(b:Node):Option (Bool):=ask (R1 vF) ((lim F pr).call 59 [zaI a,zaI b] [])
def zxz(a:Msg)(b:Msg):Option (Bool):=ask (R1 vF) ((lim F pr).call 60 [eMsg a,eMsg b] [])
def znx(me:Peer)(a:Peer)(b:Peer):Option (Bool):=ask (R1 vF) ((lim F pr).call 76 [zad me,zad a,zad b] [])
def zs9(l:List Entry)(addr:Int):Option ((List Entry)):=ask (R1 (eL 55 zaa)) ((lim F pr).call 61 [.lit 55 false (yab zaa l),vH addr] [])
def zsT(l:List Finger)(addr:Int):Option ((List Finger)):=ask (R1 (eL 82 zab)) ((lim F pr).call 62 [.lit 82 false (yab zab l),vH addr] [])
def zoQ(l:List Entry)(addr:Int):Option ((List Entry)):=ask (K1 55 zaa) ((lim F pr).call 63 [.lit 55 false (yab zaa l),vH addr] [])
def zin(n:Node)(id:Int)(why:Int):Option ((Node×(List Out))):=ask (R2 zaI (eL 78 eOut)) ((lim F pr).call 64 [zaI n,vI id,vI why] [])
def zfo(b0:Int):Bool->AV×Store
 |a0=>(vF a0,[.box 23 [vH b0]])
instance {b0}:Inj (zfo b0):=⟨by unfold zfo;exact ij_⟩
def zkQ(x:Entry)(b0:Int):Option (Bool):=ask (zfo b0) ((lim F pr).call 78 [zaa x,.bptr 0 0] [.box 23 [vH b0]])
def zc7(b0:Int):Int->AV×Store
 |a0=>(vI a0,[.box 23 [vH b0]])
instance {b0}:Inj (zc7 b0):=⟨by unfold zc7;exact ij_⟩
def zkl(s:List Entry)(b0:Int):Option (Int):=ask (zc7 b0) ((lim F pr).call 77 [.lit 55 false (yab zaa s),.fn 78 [.bptr 0 0]] [.box 23 [vH b0]])
def zhD(zan:Int)(zai:Int)(za5:Int)(zaT:Int):Bool->AV×Store
 |a0=>(vF a0,[.box 25 [vU zan,vH zai],.box 25 [vU za5,vH zaT]])
instance {zan zai za5 zaT}:Inj (zhD zan zai za5 zaT):=⟨by unfold zhD;exact ij_⟩
def zqV(x:Entry)(zan:Int)(zai:Int)(za5:Int)(zaT:Int):Option (Bool):=ask (zhD zan zai za5 zaT) ((lim F pr).call 115 [zaa x,.bptr 0 0,.bptr 1 0] [.box 25 [vU zan,vH zai],.box 25 [vU za5,vH zaT]])
def zec(zan:Int)(zai:Int)(za5:Int)(zaT:Int):Int->AV×Store
 |a0=>(vI a0,[.box 25 [vU zan,vH zai],.box 25 [vU za5,vH zaT]])
instance {zan zai za5 zaT}:Inj (zec zan zai za5 zaT):=⟨by unfold zec;exact ij_⟩
def zlQ(s:List Entry)(zan:Int)(zai:Int)(za5:Int)(zaT:Int):Option (Int):=ask (zec zan zai za5 zaT) ((lim F pr).call 77 [.lit 55 false (yab zaa s),.fn 115 [.bptr 0 0,.bptr 1 0]] [.box 25 [vU zan,vH zai],.box 25 [vU za5,vH zaT]])
def zi2(b0:Int)(b1:Int):Bool->AV×Store
 |a0=>(vF a0,[.box 3 [vI b0],.box 23 [vH b1]])
instance {b0 b1}:Inj (zi2 b0 b1):=⟨by unfold zi2;exact ij_⟩
def ztc(p:Pend)(b0:Int)(b1:Int):Option (Bool):=ask (zi2 b0 b1) ((lim F pr).call 138 [zaL p,.bptr 0 0,.bptr 1 0] [.box 3 [vI b0],.box 23 [vH b1]])
def zeG(b0:Int)(b1:Int):Int->AV×Store
 |a0=>(vI a0,[.box 3 [vI b0],.box 23 [vH b1]])
instance {b0 b1}:Inj (zeG b0 b1):=⟨by unfold zeG;exact ij_⟩
def zmI(s:List Pend)(b0:Int)(b1:Int):Option (Int):=ask (zeG b0 b1) ((lim F pr).call 180 [.lit 36 false (yab zaL s),.fn 138 [.bptr 0 0,.bptr 1 0]] [.box 3 [vI b0],.box 23 [vH b1]])
def zc5(b0:Int)(b1:Int):Bool->AV×Store
 |a0=>(vF a0,[.box 3 [vI b0],.box 23 [vH b1]])
instance {b0 b1}:Inj (zc5 b0 b1):=⟨by unfold zc5;exact ij_⟩
def zoD(s:List Pend)(b0:Int)(b1:Int):Option (Bool):=ask (zc5 b0 b1) ((lim F pr).call 137 [.lit 36 false (yab zaL s),.fn 138 [.bptr 0 0,.bptr 1 0]] [.box 3 [vI b0],.box 23 [vH b1]])
def zxw(m:Msg):Option (Msg):=ask (R1 eMsg) ((lim F pr).call 139 [eMsg m] [])
def zxy(n:Node):Option (Int):=ask (R1 vI) ((lim F pr).call 79 [zaI n] [])
def znY(l:List Job)(id:Int):Option (Int):=ask (R1 vI) ((lim F pr).call 198 [.lit 57 false (yab eJob l),vI id] [])
def zjA(γ:Nat->Nat):(Bool×Node×Job×(List Out))->AV×Store
 |(a0,a1,a2,a3)=>(.tup [.bptr 0 0,vF a0],[.box 133 (capp (zau a1 (.sl 1 (γ 1))) (capp (cJob a2) ([.sl 2 (γ 2)]))),.row 82 (γ 1) false (yab zab a1.fingers),.row 78 (γ 2) false (yab eOut a3)])
instance :InjS zjA:=⟨by unfold zjA;exact ij_⟩
def zsv(n:Node)(id:Int):Option ((Bool×Node×Job×(List Out))):=asks (fun γ=>(lim F pr).call 117 [zaI n,vI id] []) zjA
abbrev zlu:=(Int×Int×Int×Bool×(List Entry)×(List Entry)×(List Pair)×(List Pend)×(List Job)×(List Result)×Int×Int×Int)
def zbx(b0_node:Node)(b0_job:Job)(r2:List Out)(γ:Nat->Nat):zlu->AV×Store
 |(a0,a1,a2,a3,a4,a5,a6,a7,a8,a9,a10,a11,a12)=>(.tup [.agg [vU a0,vH a1,vI a2,vF a3,.lit 55 false (yab zaa a4),.lit 55 false (yab zaa a5),.sl 1 (γ 1),.lit 76 false (yab zag a6),.lit 36 false (yab zaL a7),.lit 57 false (yab eJob a8),.lit 74 false (yab zaj a9),vW a10,vI a11,vI a12],.sl 2 (γ 2)],[.box 133 (capp (zau b0_node (.sl 1 (γ 1))) (capp (cJob b0_job) ([.sl 2 (γ 2)]))),.row 82 (γ 1) false (yab zab b0_node.fingers),.row 78 (γ 2) false (yab eOut r2)])
instance {b0_node b0_job r2}:InjS (zbx b0_node b0_job r2):=⟨by unfold zbx;exact ij_⟩
def zaU(b0_node:Node)(b0_job:Job)(r2:List Out):Option (zlu):=asks (fun γ=>(lim F pr).call 118 [.bptr 0 0] [.box 133 (capp (zau b0_node (.sl 1 (γ 1))) (capp (cJob b0_job) ([.sl 2 (γ 2)]))),.row 82 (γ 1) false (yab zab b0_node.fingers),.row 78 (γ 2) false (yab eOut r2)]) (zbx b0_node b0_job r2)
abbrev zsZ:=(Int×Int×Int×Bool×(List Entry)×(List Entry)×(List Finger)×(List Pair)×(List Pend)×(List Job)×(List Result)×Int×Int×Int)
def zjN:zsZ->AV×Store
 |(a0,a1,a2,a3,a4,a5,a6,a7,a8,a9,a10,a11,a12,a13)=>(.agg [vU a0,vH a1,vI a2,vF a3,.sl 0 0,.sl 1 0,.sl 2 0,.sl 3 0,.sl 4 0,.sl 5 0,.sl 6 0,vW a11,vI a12,vI a13],[.row 55 0 false (yab zaa a4),.row 55 0 false (yab zaa a5),.row 82 0 false (yab zab a6),.row 76 0 false (yab zag a7),.row 36 0 false (yab zaL a8),.row 57 0 false (yab eJob a9),.row 74 0 false (yab zaj a10)])
instance :Inj zjN:=⟨by unfold zjN;exact ij_⟩
def zsY(n:Node)(j:Job):Option (zsZ):=ask zjN ((lim F pr).call 257 [zaI n,eJob j] [])
def zd8(b0_job:Job)(r2:List Out)(γ:Nat->Nat):(Node×(List Finger))->AV×Store
 |(a0,a1)=>(.tup [],[.box 133 (capp (zau a0 (.sl 3 (γ 3))) ([vI b0_job.id,vI b0_job.kind,vI b0_job.bit,vT b0_job.key,vT b0_job.val,vU b0_job.target,vU b0_job.via.id,vH b0_job.via.addr,vU b0_job.at_.id,vH b0_job.at_.addr,vF b0_job.doing,vI b0_job.hops,vI b0_job.tries,vI b0_job.due,.sl 2 (γ 2)])),.row 82 (γ 1) true (yab zab a1),.row 78 (γ 2) false (yab eOut r2),.row 82 (γ 3) false (yab zab a0.fingers)])
instance {b0_job r2}:InjS (zd8 b0_job r2):=⟨by unfold zd8;exact ij_⟩
def zfb(b0_node:Node)(b0_job:Job)(r2:List Out):Option ((Node×(List Finger))):=asks (fun γ=>(lim F pr).call 199 [.bptr 0 0] [.box 133 (capp (zau b0_node (.sl 1 (γ 1))) (capp (cJob b0_job) ([.sl 2 (γ 2)]))),.row 82 (γ 1) false (yab zab b0_node.fingers),.row 78 (γ 2) false (yab eOut r2)]) (zd8 b0_job r2)
def zkw(n:Node)(id:Int)(has:Bool)(val:ByteArray)(e_:Int):Option (Node):=ask (R1 zaI) ((lim F pr).call 210 [zaI n,vI id,vF has,vT val,vI e_] [])
def zbg(val:ByteArray)(b0_job:Job)(r2:List Out)(γ:Nat->Nat):(Node×(List Finger))->AV×Store
 |(a0,a1)=>(.tup [],[.box 133 (capp (zah a0) ([vI b0_job.id,vI b0_job.kind,vI b0_job.bit,vT b0_job.key,vT b0_job.val,vU b0_job.target,vU b0_job.via.id,vH b0_job.via.addr,vU b0_job.at_.id,vH b0_job.at_.addr,vF b0_job.doing,vI b0_job.hops,vI b0_job.tries,vI b0_job.due,.sl 2 (γ 2)])),.row 82 (γ 1) true (yab zab a1),.row 78 (γ 2) false (yab eOut r2)])
instance {val b0_job r2}:InjS (zbg val b0_job r2):=⟨by unfold zbg;exact ij_⟩
def zba(has:Bool)(val:ByteArray)(e_:Int)(b0_node:Node)(b0_job:Job)(r2:List Out):Option ((Node×(List Finger))):=asks (fun γ=>(lim F pr).call 123 [.bptr 0 0,vF has,vT val,vI e_] [.box 133 (capp (zau b0_node (.sl 1 (γ 1))) (capp (cJob b0_job) ([.sl 2 (γ 2)]))),.row 82 (γ 1) false (yab zab b0_node.fingers),.row 78 (γ 2) false (yab eOut r2)]) (zbg val b0_job r2)
def zco(n:Node)(b0_job:Job)(γ:Nat->Nat):((List Finger)×(List Out))->AV×Store
 |(a0,a1)=>(.tup [],[.box 133 (capp (zah n) (capp (cJob b0_job) ([.sl 2 (γ 2)]))),.row 82 (γ 1) true (yab zab a0),.row 78 (γ 2) false (yab eOut a1)])
instance {n b0_job}:InjS (zco n b0_job):=⟨by unfold zco;exact ij_⟩
def zg5(n:Node)(out:List Out)(b0_node:Node)(b0_job:Job)(r2:List Out):Option (((List Finger)×(List Out))):=asks (fun γ=>(lim F pr).call 209 [.bptr 0 0,zaI n,.lit 78 false (yab eOut out)] [.box 133 (capp (zau b0_node (.sl 1 (γ 1))) (capp (cJob b0_job) ([.sl 2 (γ 2)]))),.row 82 (γ 1) true (yab zab b0_node.fingers),.row 78 (γ 2) false (yab eOut r2)]) (zco n b0_job)
abbrev zmy:=(Node×Job×(List Finger)×(List Out))
def zd5(γ:Nat->Nat):zmy->AV×Store
 |(a0,a1,a2,a3)=>(.tup [],[.box 133 (capp (zah a0) (capp (cJob a1) ([.sl 2 (γ 2)]))),.row 82 (γ 1) true (yab zab a2),.row 78 (γ 2) false (yab eOut a3)])
instance :InjS zd5:=⟨by unfold zd5;exact ij_⟩
def zfa(to_:Peer)(m:Msg)(why:Int)(b0_node:Node)(b0_job:Job)(r2:List Out):Option (zmy):=asks (fun γ=>(lim F pr).call 258 [.bptr 0 0,zad to_,eMsg m,vI why] [.box 133 (capp (zau b0_node (.sl 1 (γ 1))) (capp (cJob b0_job) ([.sl 2 (γ 2)]))),.row 82 (γ 1) false (yab zab b0_node.fingers),.row 78 (γ 2) false (yab eOut r2)]) zd5
abbrev zlx:=(Node×Job×(List Finger)×(List Out))
def zdl(γ:Nat->Nat):zlx->AV×Store
 |(a0,a1,a2,a3)=>(.tup [],[.box 133 (capp (zah a0) (capp (cJob a1) ([.sl 2 (γ 2)]))),.row 82 (γ 1) true (yab zab a2),.row 78 (γ 2) false (yab eOut a3)])
instance :InjS zdl:=⟨by unfold zdl;exact ij_⟩
def zcD(to_:Peer)(b0_node:Node)(b0_job:Job)(r2:List Out):Option (zlx):=asks (fun γ=>(lim F pr).call 208 [.bptr 0 0,zad to_] [.box 133 (capp (zau b0_node (.sl 1 (γ 1))) (capp (cJob b0_job) ([.sl 2 (γ 2)]))),.row 82 (γ 1) false (yab zab b0_node.fingers),.row 78 (γ 2) false (yab eOut r2)]) zdl
def ztH(n:Node)(key:Int):Option ((Peer×(List Peer)×Bool)):=ask (R3 zad (eL 25 zad) vF) ((lim F pr).call 155 [zaI n,vU key] [])
def zcY(b0_job:Job)(r2:List Out)(γ:Nat->Nat):(Node×(List Finger))->AV×Store
 |(a0,a1)=>(.tup [],[.box 133 (capp (zau a0 (.sl 3 (γ 3))) ([vI b0_job.id,vI b0_job.kind,vI b0_job.bit,vT b0_job.key,vT b0_job.val,vU b0_job.target,vU b0_job.via.id,vH b0_job.via.addr,vU b0_job.at_.id,vH b0_job.at_.addr,vF b0_job.doing,vI b0_job.hops,vI b0_job.tries,vI b0_job.due,.sl 2 (γ 2)])),.row 82 (γ 1) true (yab zab a1),.row 78 (γ 2) false (yab eOut r2),.row 82 (γ 3) false (yab zab a0.fingers)])
instance {b0_job r2}:InjS (zcY b0_job r2):=⟨by unfold zcY;exact ij_⟩
def zd7(b0_node:Node)(b0_job:Job)(r2:List Out):Option ((Node×(List Finger))):=asks (fun γ=>(lim F pr).call 199 [.bptr 0 0] [.box 133 (capp (zau b0_node (.sl 1 (γ 1))) (capp (cJob b0_job) ([.sl 2 (γ 2)]))),.row 82 (γ 1) true (yab zab b0_node.fingers),.row 78 (γ 2) false (yab eOut r2)]) (zcY b0_job r2)
abbrev zmv:=(Node×Job×(List Finger)×(List Out))
def zd4(γ:Nat->Nat):zmv->AV×Store
 |(a0,a1,a2,a3)=>(.tup [],[.box 133 (capp (zah a0) (capp (cJob a1) ([.sl 2 (γ 2)]))),.row 82 (γ 1) true (yab zab a2),.row 78 (γ 2) false (yab eOut a3)])
instance :InjS zd4:=⟨by unfold zd4;exact ij_⟩
def zld(to_:Peer)(b0_node:Node)(b0_job:Job)(r2:List Out):Option (zmv):=asks (fun γ=>(lim F pr).call 201 [.bptr 0 0,zad to_] [.box 133 (capp (zau b0_node (.sl 1 (γ 1))) (capp (cJob b0_job) ([.sl 2 (γ 2)]))),.row 82 (γ 1) false (yab zab b0_node.fingers),.row 78 (γ 2) false (yab eOut r2)]) zd4
def zbX(b1_node:Node)(b1_job:Job)(r3:List Out)(γ:Nat->Nat):Bool->AV×Store
 |a0=>(vF a0,[.box 129 [.bptr 1 0],.box 133 (capp (zau b1_node (.sl 2 (γ 2))) (capp (cJob b1_job) ([.sl 3 (γ 3)]))),.row 82 (γ 2) false (yab zab b1_node.fingers),.row 78 (γ 3) false (yab eOut r3)])
instance {b1_node b1_job r3}:InjS (zbX b1_node b1_job r3):=⟨by unfold zbX;exact ij_⟩
def zdQ(f:Finger)(b1_node:Node)(b1_job:Job)(r3:List Out):Option (Bool):=askg (fun γ=>(lim F pr).call 259 [zab f,.bptr 0 0] [.box 129 [.bptr 1 0],.box 133 (capp (zau b1_node (.sl 2 (γ 2))) (capp (cJob b1_job) ([.sl 3 (γ 3)]))),.row 82 (γ 2) false (yab zab b1_node.fingers),.row 78 (γ 3) false (yab eOut r3)]) (zbX b1_node b1_job r3)
def zdz(b2_node:Node)(zaQ:Job)(r3:List Out)(γ:Nat->Nat):Int->AV×Store
 |a0=>(vI a0,[.row 82 (γ 0) false (yab zab b2_node.fingers),.box 129 [.bptr 2 0],.box 133 (capp (zau b2_node (.sl 0 (γ 0))) (capp (cJob zaQ) ([.sl 3 (γ 3)]))),.row 78 (γ 3) false (yab eOut r3)])
instance {b2_node zaQ r3}:InjS (zdz b2_node zaQ r3):=⟨by unfold zdz;exact ij_⟩
def zlf(b2_node:Node)(zaQ:Job)(r3:List Out):Option (Int):=askg (fun γ=>(lim F pr).call 219 [.sl 0 (γ 0),.fn 259 [.bptr 1 0]] [.row 82 (γ 0) false (yab zab b2_node.fingers),.box 129 [.bptr 2 0],.box 133 (capp (zau b2_node (.sl 0 (γ 0))) (capp (cJob zaQ) ([.sl 3 (γ 3)]))),.row 78 (γ 3) false (yab eOut r3)]) (zdz b2_node zaQ r3)
abbrev zip:=((List Finger)×Int×Int×Int×Bool×(List Entry)×(List Entry)×(List Pair)×(List Pend)×(List Job)×(List Result)×Int×Int×Int)
def zc6(zaQ:Job)(r3:List Out)(γ:Nat->Nat):zip->AV×Store
 |(a0,a1,a2,a3,a4,a5,a6,a7,a8,a9,a10,a11,a12,a13)=>(.sl 0 (γ 0),[.row 82 (γ 0) false (yab zab a0),.box 129 [.bptr 2 0],.box 133 (vU a1::vH a2::vI a3::vF a4:: .lit 55 false (yab zaa a5):: .lit 55 false (yab zaa a6):: .sl 0 (γ 40):: .lit 76 false (yab zag a7):: .lit 36 false (yab zaL a8):: .lit 57 false (yab eJob a9):: .lit 74 false (yab zaj a10)::vW a11::vI a12::vI a13::(capp (cJob zaQ) ([.sl 3 (γ 3)]))),.row 78 (γ 3) false (yab eOut r3)])
instance {zaQ r3}:InjS (zc6 zaQ r3):=⟨by unfold zc6;exact ij_⟩
def zkk(b2_node:Node)(zaQ:Job)(r3:List Out):Option (zip):=asks (fun γ=>(lim F pr).call 133 [.sl 0 (γ 0),.fn 259 [.bptr 1 0]] [.row 82 (γ 0) false (yab zab b2_node.fingers),.box 129 [.bptr 2 0],.box 133 (capp (zau b2_node (.sl 0 (γ 0))) (capp (cJob zaQ) ([.sl 3 (γ 3)]))),.row 78 (γ 3) false (yab eOut r3)]) (zc6 zaQ r3)
def zuS(l:List Finger)(bit:Int)(p:Peer):Option ((List Finger)):=ask (R1 (eL 82 zab)) ((lim F pr).call 260 [.lit 82 false (yab zab l),vI bit,zad p] [])
def zbY(val:ByteArray)(b0_job:Job)(r1:List Out)(γ:Nat->Nat):Node->AV×Store
 |a0=>(.tup [],[.box 133 (capp (zah a0) ([vI b0_job.id,vI b0_job.kind,vI b0_job.bit,vT b0_job.key,vT b0_job.val,vU b0_job.target,vU b0_job.via.id,vH b0_job.via.addr,vU b0_job.at_.id,vH b0_job.at_.addr,vF b0_job.doing,vI b0_job.hops,vI b0_job.tries,vI b0_job.due,.sl 1 (γ 1)])),.row 78 (γ 1) false (yab eOut r1)])
instance {val b0_job r1}:InjS (zbY val b0_job r1):=⟨by unfold zbY;exact ij_⟩
def zdV(has:Bool)(val:ByteArray)(e_:Int)(b0_node:Node)(b0_job:Job)(r1:List Out):Option (Node):=asks (fun γ=>(lim F pr).call 123 [.bptr 0 0,vF has,vT val,vI e_] [.box 133 (capp (zah b0_node) (capp (cJob b0_job) ([.sl 1 (γ 1)]))),.row 78 (γ 1) false (yab eOut r1)]) (zbY val b0_job r1)
def zdR(b0_job:Job)(r2:List Out)(γ:Nat->Nat):(Node×(List Finger))->AV×Store
 |(a0,a1)=>(.tup [],[.box 133 (capp (zah a0) ([vI b0_job.id,vI b0_job.kind,vI b0_job.bit,vT b0_job.key,vT b0_job.val,vU b0_job.target,vU b0_job.via.id,vH b0_job.via.addr,vU b0_job.at_.id,vH b0_job.at_.addr,vF b0_job.doing,vI b0_job.hops,vI b0_job.tries,vI b0_job.due,.sl 2 (γ 2)])),.row 82 (γ 1) true (yab zab a1),.row 78 (γ 2) false (yab eOut r2)])
instance {b0_job r2}:InjS (zdR b0_job r2):=⟨by unfold zdR;exact ij_⟩
def zlv(owner:Peer)(mine:Bool)(b0_node:Node)(b0_job:Job)(r2:List Out):Option ((Node×(List Finger))):=asks (fun γ=>(lim F pr).call 202 [.bptr 0 0,zad owner,vF mine] [.box 133 (capp (zau b0_node (.sl 1 (γ 1))) (capp (cJob b0_job) ([.sl 2 (γ 2)]))),.row 82 (γ 1) false (yab zab b0_node.fingers),.row 78 (γ 2) false (yab eOut r2)]) (zdR b0_job r2)
def ztK(n:Node)(key:ByteArray)(val:ByteArray):Option ((Node×(List Out)×Int)):=ask (R3 zaI (eL 78 eOut) vI) ((lim F pr).call 243 [zaI n,vT key,vT val] [])
def zcX(val:ByteArray)(b0_job:Job)(r2:List Out)(γ:Nat->Nat):(Node×(List Finger))->AV×Store
 |(a0,a1)=>(.tup [],[.box 133 (capp (zah a0) ([vI b0_job.id,vI b0_job.kind,vI b0_job.bit,vT b0_job.key,vT b0_job.val,vU b0_job.target,vU b0_job.via.id,vH b0_job.via.addr,vU b0_job.at_.id,vH b0_job.at_.addr,vF b0_job.doing,vI b0_job.hops,vI b0_job.tries,vI b0_job.due,.sl 2 (γ 2)])),.row 82 (γ 1) true (yab zab a1),.row 78 (γ 2) false (yab eOut r2)])
instance {val b0_job r2}:InjS (zcX val b0_job r2):=⟨by unfold zcX;exact ij_⟩
def zjI(has:Bool)(val:ByteArray)(e_:Int)(b0_node:Node)(b0_job:Job)(r2:List Out):Option ((Node×(List Finger))):=asks (fun γ=>(lim F pr).call 123 [.bptr 0 0,vF has,vT val,vI e_] [.box 133 (capp (zau b0_node (.sl 1 (γ 1))) (capp (cJob b0_job) ([.sl 2 (γ 2)]))),.row 82 (γ 1) true (yab zab b0_node.fingers),.row 78 (γ 2) false (yab eOut r2)]) (zcX val b0_job r2)
def zeS(b0_job:Job)(γ:Nat->Nat):(Node×(List Finger)×(List Out))->AV×Store
 |(a0,a1,a2)=>(.tup [],[.box 133 (capp (zah a0) ([vI b0_job.id,vI b0_job.kind,vI b0_job.bit,vT b0_job.key,vT b0_job.val,vU b0_job.target,vU b0_job.via.id,vH b0_job.via.addr,vU b0_job.at_.id,vH b0_job.at_.addr,vF b0_job.doing,vI b0_job.hops,vI b0_job.tries,vI b0_job.due,.sl 2 (γ 2)])),.row 82 (γ 1) true (yab zab a1),.row 78 (γ 2) false (yab eOut a2)])
instance {b0_job}:InjS (zeS b0_job):=⟨by unfold zeS;exact ij_⟩
def znr(b0_node:Node)(b0_job:Job)(r2:List Out):Option ((Node×(List Finger)×(List Out))):=asks (fun γ=>(lim F pr).call 203 [.bptr 0 0] [.box 133 (capp (zau b0_node (.sl 1 (γ 1))) (capp (cJob b0_job) ([.sl 2 (γ 2)]))),.row 82 (γ 1) false (yab zab b0_node.fingers),.row 78 (γ 2) false (yab eOut r2)]) (zeS b0_job)
def zvN(l:List Pair)(key:ByteArray):Option ((ByteArray×Bool)):=ask (R2 vT vF) ((lim F pr).call 204 [.lit 76 false (yab zag l),vT key] [])
abbrev zmz:=(Node×Job×(List Finger)×(List Out))
def zd6(γ:Nat->Nat):zmz->AV×Store
 |(a0,a1,a2,a3)=>(.tup [],[.box 133 (capp (zah a0) (capp (cJob a1) ([.sl 2 (γ 2)]))),.row 82 (γ 1) true (yab zab a2),.row 78 (γ 2) false (yab eOut a3)])
instance :InjS zd6:=⟨by unfold zd6;exact ij_⟩
def zig(owner:Peer)(b0_node:Node)(b0_job:Job)(r2:List Out):Option (zmz):=asks (fun γ=>(lim F pr).call 120 [.bptr 0 0,zad owner] [.box 133 (capp (zau b0_node (.sl 1 (γ 1))) (capp (cJob b0_job) ([.sl 2 (γ 2)]))),.row 82 (γ 1) false (yab zab b0_node.fingers),.row 78 (γ 2) false (yab eOut r2)]) zd6
abbrev zkq:=(Node×Job×(List Finger)×(List Out))
def zeh(γ:Nat->Nat):zkq->AV×Store
 |(a0,a1,a2,a3)=>(.tup [],[.box 133 (capp (zah a0) (capp (cJob a1) ([.sl 2 (γ 2)]))),.row 82 (γ 1) true (yab zab a2),.row 78 (γ 2) false (yab eOut a3)])
instance :InjS zeh:=⟨by unfold zeh;exact ij_⟩
def zmx(to_:Peer)(m:Msg)(why:Int)(b0_node:Node)(b0_job:Job)(r2:List Out):Option (zkq):=asks (fun γ=>(lim F pr).call 258 [.bptr 0 0,zad to_,eMsg m,vI why] [.box 133 (capp (zau b0_node (.sl 1 (γ 1))) (capp (cJob b0_job) ([.sl 2 (γ 2)]))),.row 82 (γ 1) true (yab zab b0_node.fingers),.row 78 (γ 2) false (yab eOut r2)]) zeh
abbrev zjF:=(Node×Job×(List Finger)×(List Out))
def zdS(γ:Nat->Nat):zjF->AV×Store
 |(a0,a1,a2,a3)=>(.tup [],[.box 133 (capp (zah a0) (capp (cJob a1) ([.sl 2 (γ 2)]))),.row 82 (γ 1) true (yab zab a2),.row 78 (γ 2) false (yab eOut a3)])
instance :InjS zdS:=⟨by unfold zdS;exact ij_⟩
def zlw(to_:Peer)(b0_node:Node)(b0_job:Job)(r2:List Out):Option (zjF):=asks (fun γ=>(lim F pr).call 208 [.bptr 0 0,zad to_] [.box 133 (capp (zau b0_node (.sl 1 (γ 1))) (capp (cJob b0_job) ([.sl 2 (γ 2)]))),.row 82 (γ 1) true (yab zab b0_node.fingers),.row 78 (γ 2) false (yab eOut r2)]) zdS
abbrev zlA:=(Node×Job×(List Finger)×(List Out))
def zeU(γ:Nat->Nat):zlA->AV×Store
 |(a0,a1,a2,a3)=>(.tup [],[.box 133 (capp (zah a0) (capp (cJob a1) ([.sl 2 (γ 2)]))),.row 82 (γ 1) true (yab zab a2),.row 78 (γ 2) false (yab eOut a3)])
instance :InjS zeU:=⟨by unfold zeU;exact ij_⟩
def zeD(b0_node:Node)(b0_job:Job)(r2:List Out):Option (zlA):=asks (fun γ=>(lim F pr).call 200 [.bptr 0 0] [.box 133 (capp (zau b0_node (.sl 1 (γ 1))) (capp (cJob b0_job) ([.sl 2 (γ 2)]))),.row 82 (γ 1) false (yab zab b0_node.fingers),.row 78 (γ 2) false (yab eOut r2)]) zeU
abbrev zht:=(Node×Job×(List Finger))⊕(Node×Job×(List Finger)×(List Out))
def zbP(r2:List Out)(γ:Nat->Nat):zht->AV×Store
 | .inl (a0,a1,a2)=>(.tup [],[.box 133 (capp (zau a0 (.sl 3 (γ 3))) (capp (cJob a1) ([.sl 2 (γ 2)]))),.row 82 (γ 1) true (yab zab a2),.row 78 (γ 2) false (yab eOut r2),.row 82 (γ 3) false (yab zab a0.fingers)])
 | .inr (b0,b1,b2,b3)=>(.tup [],[.box 133 (capp (zah b0) (capp (cJob b1) ([.sl 2 (γ 2)]))),.row 82 (γ 1) true (yab zab b2),.row 78 (γ 2) false (yab eOut b3)])
instance {r2}:InjS (zbP r2):=⟨by unfold zbP;exact ij_⟩
def zcC(why:Int)(b0_node:Node)(b0_job:Job)(r2:List Out):Option (zht):=asks (fun γ=>(lim F pr).call 119 [.bptr 0 0,vI why] [.box 133 (capp (zau b0_node (.sl 1 (γ 1))) (capp (cJob b0_job) ([.sl 2 (γ 2)]))),.row 82 (γ 1) false (yab zab b0_node.fingers),.row 78 (γ 2) false (yab eOut r2)]) (zbP r2)
def zbM(b0_node:Node)(b0_job:Job)(r1:List Out)(γ:Nat->Nat):Node->AV×Store
 |a0=>(.tup [zaI a0,.sl 1 (γ 1)],[.box 133 (capp (zah b0_node) (capp (cJob b0_job) ([.sl 1 (γ 1)]))),.row 78 (γ 1) false (yab eOut r1)])
instance {b0_node b0_job r1}:InjS (zbM b0_node b0_job r1):=⟨by unfold zbM;exact ij_⟩
def za9(b0_node:Node)(b0_job:Job)(r1:List Out):Option (Node):=asks (fun γ=>(lim F pr).call 118 [.bptr 0 0] [.box 133 (capp (zah b0_node) (capp (cJob b0_job) ([.sl 1 (γ 1)]))),.row 78 (γ 1) false (yab eOut r1)]) (zbM b0_node b0_job r1)
def zgO(a:Int)(x:Int)(b:Int):Option (Bool):=ask (R1 vF) ((lim F pr).call 207 [vU a,vU x,vU b] [])
def zcW(b1_node:Node)(b1_job:Job)(r3:List Out)(γ:Nat->Nat):Bool->AV×Store
 |a0=>(vF a0,[.box 129 [.bptr 1 0],.box 133 (capp (zau b1_node (.sl 2 (γ 2))) (capp (cJob b1_job) ([.sl 3 (γ 3)]))),.row 82 (γ 2) false (yab zab b1_node.fingers),.row 78 (γ 3) false (yab eOut r3)])
instance {b1_node b1_job r3}:InjS (zcW b1_node b1_job r3):=⟨by unfold zcW;exact ij_⟩
def zjH(p:Peer)(b1_node:Node)(b1_job:Job)(r3:List Out):Option (Bool):=asks (fun γ=>(lim F pr).call 206 [zad p,.bptr 0 0] [.box 129 [.bptr 1 0],.box 133 (capp (zau b1_node (.sl 2 (γ 2))) (capp (cJob b1_job) ([.sl 3 (γ 3)]))),.row 82 (γ 2) false (yab zab b1_node.fingers),.row 78 (γ 3) false (yab eOut r3)]) (zcW b1_node b1_job r3)
def zdC(b1_node:Node)(b1_job:Job)(r3:List Out)(γ:Nat->Nat):Int->AV×Store
 |a0=>(vI a0,[.box 129 [.bptr 1 0],.box 133 (capp (zau b1_node (.sl 2 (γ 2))) (capp (cJob b1_job) ([.sl 3 (γ 3)]))),.row 82 (γ 2) false (yab zab b1_node.fingers),.row 78 (γ 3) false (yab eOut r3)])
instance {b1_node b1_job r3}:InjS (zdC b1_node b1_job r3):=⟨by unfold zdC;exact ij_⟩
def zlh(s:List Peer)(b1_node:Node)(b1_job:Job)(r3:List Out):Option (Int):=asks (fun γ=>(lim F pr).call 205 [.lit 25 false (yab zad s),.fn 206 [.bptr 0 0]] [.box 129 [.bptr 1 0],.box 133 (capp (zau b1_node (.sl 2 (γ 2))) (capp (cJob b1_job) ([.sl 3 (γ 3)]))),.row 82 (γ 2) false (yab zab b1_node.fingers),.row 78 (γ 3) false (yab eOut r3)]) (zdC b1_node b1_job r3)
abbrev zfO:=(Node×Job×(List Finger))⊕(Node×Job×(List Finger)×(List Out))
def zdU(r2:List Out)(γ:Nat->Nat):zfO->AV×Store
 | .inl (a0,a1,a2)=>(.tup [],[.box 133 (capp (zau a0 (.sl 3 (γ 3))) (capp (cJob a1) ([.sl 2 (γ 2)]))),.row 82 (γ 1) true (yab zab a2),.row 78 (γ 2) false (yab eOut r2),.row 82 (γ 3) false (yab zab a0.fingers)])
 | .inr (b0,b1,b2,b3)=>(.tup [],[.box 133 (capp (zah b0) (capp (cJob b1) ([.sl 2 (γ 2)]))),.row 82 (γ 1) true (yab zab b2),.row 78 (γ 2) false (yab eOut b3)])
instance {r2}:InjS (zdU r2):=⟨by unfold zdU;exact ij_⟩
def zhu(l:List Peer)(b0_node:Node)(b0_job:Job)(r2:List Out):Option (zfO):=asks (fun γ=>(lim F pr).call 121 [.bptr 0 0,.lit 25 false (yab zad l)] [.box 133 (capp (zau b0_node (.sl 1 (γ 1))) (capp (cJob b0_job) ([.sl 2 (γ 2)]))),.row 82 (γ 1) false (yab zab b0_node.fingers),.row 78 (γ 2) false (yab eOut r2)]) (zdU r2)
def zdW(n:Node)(b0_job:Job)(γ:Nat->Nat):(List Out)->AV×Store
 |a0=>(.tup [],[.box 133 (capp (zah n) (capp (cJob b0_job) ([.sl 1 (γ 1)]))),.row 78 (γ 1) false (yab eOut a0)])
instance {n b0_job}:InjS (zdW n b0_job):=⟨by unfold zdW;exact ij_⟩
def zhx(n:Node)(out:List Out)(b0_node:Node)(b0_job:Job)(r1:List Out):Option ((List Out)):=asks (fun γ=>(lim F pr).call 209 [.bptr 0 0,zaI n,.lit 78 false (yab eOut out)] [.box 133 (capp (zah b0_node) (capp (cJob b0_job) ([.sl 1 (γ 1)]))),.row 78 (γ 1) false (yab eOut r1)]) (zdW n b0_job)
def zdT(b0_job:Job)(γ:Nat->Nat):(Node×(List Finger)×(List Out))->AV×Store
 |(a0,a1,a2)=>(.tup [],[.box 133 (capp (zah a0) ([vI b0_job.id,vI b0_job.kind,vI b0_job.bit,vT b0_job.key,vT b0_job.val,vU b0_job.target,vU b0_job.via.id,vH b0_job.via.addr,vU b0_job.at_.id,vH b0_job.at_.addr,vF b0_job.doing,vI b0_job.hops,vI b0_job.tries,vI b0_job.due,.sl 2 (γ 2)])),.row 82 (γ 1) true (yab zab a1),.row 78 (γ 2) false (yab eOut a2)])
instance {b0_job}:InjS (zdT b0_job):=⟨by unfold zdT;exact ij_⟩
def zly(b0_node:Node)(b0_job:Job)(r2:List Out):Option ((Node×(List Finger)×(List Out))):=asks (fun γ=>(lim F pr).call 122 [.bptr 0 0] [.box 133 (capp (zau b0_node (.sl 1 (γ 1))) (capp (cJob b0_job) ([.sl 2 (γ 2)]))),.row 82 (γ 1) false (yab zab b0_node.fingers),.row 78 (γ 2) false (yab eOut r2)]) (zdT b0_job)
def zqr(l:List Entry)(addr:Int):Option (Int):=ask (R1 vI) ((lim F pr).call 66 [.lit 55 false (yab zaa l),vH addr] [])
def zxA(l:List Entry)(addr:Int):Option ((List Entry)):=ask (R1 (eL 55 zaa)) ((lim F pr).call 68 [.lit 55 false (yab zaa l),vH addr] [])
def zvn(me:Peer)(a:Peer)(b:Peer):Option (Bool):=ask (R1 vF) ((lim F pr).call 124 [zad me,zad a,zad b] [])
def zzS(n:Node):Option (Int):=ask (R1 vI) ((lim F pr).call 83 [zaI n] [])
def zqy(n:Node)(id:Int):Option (Int):=ask (R1 vI) ((lim F pr).call 125 [zaI n,vI id] [])
def zne(n:Node)(j:Job)(why:Int):Option ((Node×(List Out))):=ask (R2 zaI (eL 78 eOut)) ((lim F pr).call 126 [zaI n,eJob j,vI why] [])
def zwI(n:Node)(j:Job)(owner:Peer):Option ((Node×(List Out))):=ask (R2 zaI (eL 78 eOut)) ((lim F pr).call 127 [zaI n,eJob j,zad owner] [])
def zny(a:Int)(x:Int)(b:Int):Option (Bool):=ask (R1 vF) ((lim F pr).call 128 [vU a,vU x,vU b] [])
def zbv(n:Node)(j:Job)(has:Bool)(val:ByteArray)(e_:Int):Option (Node):=ask (R1 zaI) ((lim F pr).call 129 [zaI n,eJob j,vF has,vT val,vI e_] [])
def zjn(n:Node)(j:Job)(to_:Peer):Option ((Node×(List Out))):=ask (R2 zaI (eL 78 eOut)) ((lim F pr).call 130 [zaI n,eJob j,zad to_] [])
def zqq(a:List Peer)(b:List Peer):Option (Bool):=ask (R1 vF) ((lim F pr).call 131 [.lit 25 false (yab zad a),.lit 25 false (yab zad b)] [])
def zjo(a:Int)(b:Int):Option (Int):=ask (R1 vU) ((lim F pr).call 140 [vU a,vU b] [])
def zf2(γ:Nat->Nat):(List Entry)->AV×Store
 |a0=>(.sl 0 (γ 0),[.row 55 (γ 0) false (yab zaa a0)])
instance :InjS zf2:=⟨by unfold zf2;exact ij_⟩
def zo1(i:Int)(j:Int)(r0:List Entry):Option ((List Entry)):=asks (fun γ=>(lim F pr).call 132 [.sl 0 (γ 0),vI i,vI j] [.row 55 (γ 0) false (yab zaa r0)]) zf2
def zev(b0:Int):Bool->AV×Store
 |a0=>(vF a0,[.box 23 [vH b0]])
instance {b0}:Inj (zev b0):=⟨by unfold zev;exact ij_⟩
def zlT(f:Finger)(b0:Int):Option (Bool):=ask (zev b0) ((lim F pr).call 134 [zab f,.bptr 0 0] [.box 23 [vH b0]])
def zcL(r0:List Finger)(b1:Int)(γ:Nat->Nat):Int->AV×Store
 |a0=>(vI a0,[.row 82 (γ 0) false (yab zab r0),.box 23 [vH b1]])
instance {r0 b1}:InjS (zcL r0 b1):=⟨by unfold zcL;exact ij_⟩
def ziI(r0:List Finger)(b1:Int):Option (Int):=askg (fun γ=>(lim F pr).call 219 [.sl 0 (γ 0),.fn 134 [.bptr 1 0]] [.row 82 (γ 0) false (yab zab r0),.box 23 [vH b1]]) (zcL r0 b1)
def zcq(b1:Int)(γ:Nat->Nat):(List Finger)->AV×Store
 |a0=>(.sl 0 (γ 0),[.row 82 (γ 0) false (yab zab a0),.box 23 [vH b1]])
instance {b1}:InjS (zcq b1):=⟨by unfold zcq;exact ij_⟩
def zmF(r0:List Finger)(b1:Int):Option ((List Finger)):=asks (fun γ=>(lim F pr).call 133 [.sl 0 (γ 0),.fn 134 [.bptr 1 0]] [.row 82 (γ 0) false (yab zab r0),.box 23 [vH b1]]) (zcq b1)
def zew(b0:Int):Bool->AV×Store
 |a0=>(vF a0,[.box 23 [vH b0]])
instance {b0}:Inj (zew b0):=⟨by unfold zew;exact ij_⟩
def zgl(x:Entry)(b0:Int):Option (Bool):=ask (zew b0) ((lim F pr).call 136 [zaa x,.bptr 0 0] [.box 23 [vH b0]])
def zc8(b0:Int):Int->AV×Store
 |a0=>(vI a0,[.box 23 [vH b0]])
instance {b0}:Inj (zc8 b0):=⟨by unfold zc8;exact ij_⟩
def zkm(s:List Entry)(b0:Int):Option (Int):=ask (zc8 b0) ((lim F pr).call 77 [.lit 55 false (yab zaa s),.fn 136 [.bptr 0 0]] [.box 23 [vH b0]])
def zdy(b1:Int)(γ:Nat->Nat):(List Entry)->AV×Store
 |a0=>(.sl 0 (γ 0),[.row 55 (γ 0) false (yab zaa a0),.box 23 [vH b1]])
instance {b1}:InjS (zdy b1):=⟨by unfold zdy;exact ij_⟩
def zle(r0:List Entry)(b1:Int):Option ((List Entry)):=asks (fun γ=>(lim F pr).call 135 [.sl 0 (γ 0),.fn 136 [.bptr 1 0]] [.row 55 (γ 0) false (yab zaa r0),.box 23 [vH b1]]) (zdy b1)
def zhC(b0:Int):Bool->AV×Store
 |a0=>(vF a0,[.box 3 [vI b0]])
instance {b0}:Inj (zhC b0):=⟨by unfold zhC;exact ij_⟩
def zqS(j:Job)(b0:Int):Option (Bool):=ask (zhC b0) ((lim F pr).call 256 [eJob j,.bptr 0 0] [.box 3 [vI b0]])
def zed(b0:Int):Int->AV×Store
 |a0=>(vI a0,[.box 3 [vI b0]])
instance {b0}:Inj (zed b0):=⟨by unfold zed;exact ij_⟩
def zpY(s:List Job)(b0:Int):Option (Int):=ask (zed b0) ((lim F pr).call 254 [.lit 57 false (yab eJob s),.fn 256 [.bptr 0 0]] [.box 3 [vI b0]])
def ziF(γ:Nat->Nat):(List Job)->AV×Store
 |a0=>(.sl 0 (γ 0),[.row 57 (γ 0) false (yab eJob a0)])
instance :InjS ziF:=⟨by unfold ziF;exact ij_⟩
def zsy(i:Int)(j:Int)(r0:List Job):Option ((List Job)):=asks (fun γ=>(lim F pr).call 262 [.sl 0 (γ 0),vI i,vI j] [.row 57 (γ 0) false (yab eJob r0)]) ziF
def zkx(zbf:Int)(zaZ:Int)(zbd:Int)(za3:Bool)(zbC:Int)(zbe:Int)(za0:Int)(r1:List Entry)(r2:List Entry)(r3:List Finger)(r4:List Pair)(r5:List Pend)(r6:List Job)(r7:List Result)(γ:Nat->Nat):((List Result)×(List Result))⊕Unit->AV×Store
 | .inl (a0,a1)=>(.tup [],[.box 34 [vU zbf,vH zaZ,vI zbd,vF za3,.sl 1 (γ 1),.sl 2 (γ 2),.sl 3 (γ 3),.sl 4 (γ 4),.sl 5 (γ 5),.sl 6 (γ 6),.sl 8 (γ 8),vW zbC,vI zbe,vI za0],.row 55 (γ 1) false (yab zaa r1),.row 55 (γ 2) false (yab zaa r2),.row 82 (γ 3) false (yab zab r3),.row 76 (γ 4) false (yab zag r4),.row 36 (γ 5) false (yab zaL r5),.row 57 (γ 6) false (yab eJob r6),.row 74 (γ 7) false (yab zaj a0),.row 74 (γ 8) false (yab zaj a1)])
 | .inr ()=>(.tup [],[.box 34 [vU zbf,vH zaZ,vI zbd,vF za3,.sl 1 (γ 1),.sl 2 (γ 2),.sl 3 (γ 3),.sl 4 (γ 4),.sl 5 (γ 5),.sl 6 (γ 6),.sl 7 (γ 7),vW zbC,vI zbe,vI za0],.row 55 (γ 1) false (yab zaa r1),.row 55 (γ 2) false (yab zaa r2),.row 82 (γ 3) false (yab zab r3),.row 76 (γ 4) false (yab zag r4),.row 36 (γ 5) false (yab zaL r5),.row 57 (γ 6) false (yab eJob r6),.row 74 (γ 7) false (yab zaj r7)])
instance {zbf zaZ zbd za3 zbC zbe za0 r1 r2 r3 r4 r5 r6 r7}:InjS (zkx zbf zaZ zbd za3 zbC zbe za0 r1 r2 r3 r4 r5 r6 r7):=⟨by unfold zkx;exact ij_⟩
def zu0(j:Job)(has:Bool)(val:ByteArray)(e_:Int)(zbf:Int)(zaZ:Int)(zbd:Int)(za3:Bool)(zbC:Int)(zbe:Int)(za0:Int)(r1:List Entry)(r2:List Entry)(r3:List Finger)(r4:List Pair)(r5:List Pend)(r6:List Job)(r7:List Result):Option (((List Result)×(List Result))⊕Unit):=asks (fun γ=>(lim F pr).call 141 [.bptr 0 0,eJob j,vF has,vT val,vI e_] [.box 34 [vU zbf,vH zaZ,vI zbd,vF za3,.sl 1 (γ 1),.sl 2 (γ 2),.sl 3 (γ 3),.sl 4 (γ 4),.sl 5 (γ 5),.sl 6 (γ 6),.sl 7 (γ 7),vW zbC,vI zbe,vI za0],.row 55 (γ 1) false (yab zaa r1),.row 55 (γ 2) false (yab zaa r2),.row 82 (γ 3) false (yab zab r3),.row 76 (γ 4) false (yab zag r4),.row 36 (γ 5) false (yab zaL r5),.row 57 (γ 6) false (yab eJob r6),.row 74 (γ 7) false (yab zaj r7)]) (zkx zbf zaZ zbd za3 zbC zbe za0 r1 r2 r3 r4 r5 r6 r7)
def zl1(l:List Entry):Option ((List Peer)):=ask (K1 25 zad) ((lim F pr).call 98 [.lit 55 false (yab zaa l)] [])
def zlN(a:Int)(x:Int)(b:Int):Option (Bool):=ask (R1 vF) ((lim F pr).call 225 [vU a,vU x,vU b] [])
def zpI(n:Node)(key:Int):Option (Bool):=ask (R1 vF) ((lim F pr).call 226 [zaI n,vU key] [])
def zsU(me:Peer)(l:List Entry)(f:List Finger)(key:Int)(most:Int):Option ((List Peer)):=ask (R1 (eL 25 zad)) ((lim F pr).call 227 [zad me,.lit 55 false (yab zaa l),.lit 82 false (yab zab f),vU key,vI most] [])
def zhz(b0:Int):Bool->AV×Store
 |a0=>(vF a0,[.box 3 [vI b0]])
instance {b0}:Inj (zhz b0):=⟨by unfold zhz;exact ij_⟩
def zqO(f:Finger)(b0:Int):Option (Bool):=ask (zhz b0) ((lim F pr).call 280 [zab f,.bptr 0 0] [.box 3 [vI b0]])
def zcJ(r0:List Finger)(b1:Int)(γ:Nat->Nat):Int->AV×Store
 |a0=>(vI a0,[.row 82 (γ 0) false (yab zab r0),.box 3 [vI b1]])
instance {r0 b1}:InjS (zcJ r0 b1):=⟨by unfold zcJ;exact ij_⟩
def ziG(r0:List Finger)(b1:Int):Option (Int):=askg (fun γ=>(lim F pr).call 219 [.sl 0 (γ 0),.fn 280 [.bptr 1 0]] [.row 82 (γ 0) false (yab zab r0),.box 3 [vI b1]]) (zcJ r0 b1)
def zhA(b0:Int):Bool->AV×Store
 |a0=>(vF a0,[.box 3 [vI b0]])
instance {b0}:Inj (zhA b0):=⟨by unfold zhA;exact ij_⟩
def zqP(f:Finger)(b0:Int):Option (Bool):=ask (zhA b0) ((lim F pr).call 281 [zab f,.bptr 0 0] [.box 3 [vI b0]])
def zcK(r0:List Finger)(b1:Int)(γ:Nat->Nat):Int->AV×Store
 |a0=>(vI a0,[.row 82 (γ 0) false (yab zab r0),.box 3 [vI b1]])
instance {r0 b1}:InjS (zcK r0 b1):=⟨by unfold zcK;exact ij_⟩
def ziH(r0:List Finger)(b1:Int):Option (Int):=askg (fun γ=>(lim F pr).call 219 [.sl 0 (γ 0),.fn 281 [.bptr 1 0]] [.row 82 (γ 0) false (yab zab r0),.box 3 [vI b1]]) (zcK r0 b1)
def zvO(l:List Pair)(key:ByteArray)(val:ByteArray):Option (((List Pair)×Int)):=ask (R2 (eL 76 zag) vI) ((lim F pr).call 245 [.lit 76 false (yab zag l),vT key,vT val] [])
def ztJ(n:Node)(to_:Peer)(l:List Pair)(fresh:Bool):Option ((Node×(List Out))):=ask (R2 zaI (eL 78 eOut)) ((lim F pr).call 99 [zaI n,zad to_,.lit 76 false (yab zag l),vF fresh] [])
def znP(l:List Pair)(key:ByteArray):Option (Int):=ask (R1 vI) ((lim F pr).call 261 [.lit 76 false (yab zag l),vT key] [])
def zm1(a:Int)(b:Int):Option (Int):=ask (R1 vU) ((lim F pr).call 211 [vU a,vU b] [])
def zpA(l:List Job)(id:Int):Option (Int):=ask (R1 vI) ((lim F pr).call 212 [.lit 57 false (yab eJob l),vI id] [])
def zgF(n:Node)(j:Job):Option (Node):=ask (R1 zaI) ((lim F pr).call 213 [zaI n,eJob j] [])
def znf(n:Node)(j:Job):Option ((Node×(List Out))):=ask (R2 zaI (eL 78 eOut)) ((lim F pr).call 214 [zaI n,eJob j] [])
def zwH(n:Node)(j:Job)(to_:Peer):Option ((Node×(List Out))):=ask (R2 zaI (eL 78 eOut)) ((lim F pr).call 215 [zaI n,eJob j,zad to_] [])
def zxH(n:Node)(key:ByteArray)(val:ByteArray):Option ((Node×(List Out)×Int)):=ask (R3 zaI (eL 78 eOut) vI) ((lim F pr).call 192 [zaI n,vT key,vT val] [])
def zzP(l:List Pair)(key:ByteArray):Option ((ByteArray×Bool)):=ask (R2 vT vF) ((lim F pr).call 191 [.lit 76 false (yab zag l),vT key] [])
def zzO(l:List Finger)(bit:Int)(p:Peer):Option ((List Finger)):=ask (R1 (eL 82 zab)) ((lim F pr).call 216 [.lit 82 false (yab zab l),vI bit,zad p] [])
def zps(a:Int)(x:Int)(b:Int):Option (Bool):=ask (R1 vF) ((lim F pr).call 217 [vU a,vU x,vU b] [])
def ztw(n:Node)(id:Int)(has:Bool)(val:ByteArray)(e_:Int):Option (Node):=ask (R1 zaI) ((lim F pr).call 218 [zaI n,vI id,vF has,vT val,vI e_] [])
def zvc(l:List Entry):Option ((List Peer)):=ask (K1 25 zad) ((lim F pr).call 158 [.lit 55 false (yab zaa l),.fn 159 []] [])
def zge(zan:Int)(zai:Int):Bool->AV×Store
 |a0=>(vF a0,[.box 25 [vU zan,vH zai]])
instance {zan zai}:Inj (zge zan zai):=⟨by unfold zge;exact ij_⟩
def zpe(q:Peer)(zan:Int)(zai:Int):Option (Bool):=ask (zge zan zai) ((lim F pr).call 264 [zad q,.bptr 0 0] [.box 25 [vU zan,vH zai]])
def zeF(zan:Int)(zai:Int):Int->AV×Store
 |a0=>(vI a0,[.box 25 [vU zan,vH zai]])
instance {zan zai}:Inj (zeF zan zai):=⟨by unfold zeF;exact ij_⟩
def zmH(s:List Peer)(zan:Int)(zai:Int):Option (Int):=ask (zeF zan zai) ((lim F pr).call 205 [.lit 25 false (yab zad s),.fn 264 [.bptr 0 0]] [.box 25 [vU zan,vH zai]])
def zzF(s:ByteArray):Option (Bool):=ask (R1 vF) ((lim F pr).call 233 [vT s] [])
def zic(b0:ByteArray):Bool->AV×Store
 |a0=>(vF a0,[.box 9 [vT b0]])
instance {b0}:Inj (zic b0):=⟨by unfold zic;exact ij_⟩
def zrp(p:Pair)(b0:ByteArray):Option (Bool):=ask (zic b0) ((lim F pr).call 275 [zag p,.bptr 0 0] [.box 9 [vT b0]])
def zdA(b0:ByteArray):Int->AV×Store
 |a0=>(vI a0,[.box 9 [vT b0]])
instance {b0}:Inj (zdA b0):=⟨by unfold zdA;exact ij_⟩
def zlg(s:List Pair)(b0:ByteArray):Option (Int):=ask (zdA b0) ((lim F pr).call 154 [.lit 76 false (yab zag s),.fn 275 [.bptr 0 0]] [.box 9 [vT b0]])
def zfy(b0:ByteArray):Bool->AV×Store
 |a0=>(vF a0,[.box 9 [vT b0]])
instance {b0}:Inj (zfy b0):=⟨by unfold zfy;exact ij_⟩
def zlc(p:Pair)(b0:ByteArray):Option (Bool):=ask (zfy b0) ((lim F pr).call 283 [zag p,.bptr 0 0] [.box 9 [vT b0]])
def zdB(b0:ByteArray):Int->AV×Store
 |a0=>(vI a0,[.box 9 [vT b0]])
instance {b0}:Inj (zdB b0):=⟨by unfold zdB;exact ij_⟩
def zo3(s:List Pair)(b0:ByteArray):Option (Int):=ask (zdB b0) ((lim F pr).call 154 [.lit 76 false (yab zag s),.fn 283 [.bptr 0 0]] [.box 9 [vT b0]])
def zxF(n:Node)(key:Int):Option ((Peer×(List Peer)×Bool)):=ask (R3 zad (eL 25 zad) vF) ((lim F pr).call 161 [zaI n,vU key] [])
def zzQ(l:List Pair)(key:ByteArray)(val:ByteArray):Option (((List Pair)×Int)):=ask (R2 (eL 76 zag) vI) ((lim F pr).call 252 [.lit 76 false (yab zag l),vT key,vT val] [])
def zpu(l:List Entry):Option ((List Peer)):=ask (K1 25 zad) ((lim F pr).call 92 [.lit 55 false (yab zaa l)] [])
def zxG(n:Node)(to_:Peer)(l:List Pair)(fresh:Bool):Option ((Node×(List Out))):=ask (R2 zaI (eL 78 eOut)) ((lim F pr).call 102 [zaI n,zad to_,.lit 76 false (yab zag l),vF fresh] [])
def zqv(l:List Pair)(key:ByteArray):Option (Int):=ask (R1 vI) ((lim F pr).call 253 [.lit 76 false (yab zag l),vT key] [])
def zzN(l:List Finger)(bit:Int):Option ((Peer×Bool)):=ask (R2 zad vF) ((lim F pr).call 263 [.lit 82 false (yab zab l),vI bit] [])
def zxE(l:List Result)(j:Job)(has:Bool)(val:ByteArray)(e_:Int):Option ((List Result)):=ask (R1 (eL 74 zaj)) ((lim F pr).call 142 [.lit 74 false (yab zaj l),eJob j,vF has,vT val,vI e_] [])
def zrg(l:List Job)(at_:Int):Option ((List Job)):=ask (R1 (eL 57 eJob)) ((lim F pr).call 143 [.lit 57 false (yab eJob l),vI at_] [])
def zta(x:Entry):Option (Bool):=ask (R1 vF) ((lim F pr).call 159 [zaa x] [])
def zvR(s:ByteArray):Option (Bool):=ask (R1 vF) ((lim F pr).call 272 [vT s] [])
def zvQ(s:ByteArray):Option (Int):=ask (R1 vI) ((lim F pr).call 273 [vT s] [])
def zxB(me:Peer)(l:List Entry)(f:List Finger)(key:Int)(most:Int):Option ((List Peer)):=ask (R1 (eL 25 zad)) ((lim F pr).call 229 [zad me,.lit 55 false (yab zaa l),.lit 82 false (yab zab f),vU key,vI most] [])
def zzM(s:ByteArray):Option (Bool):=ask (R1 vF) ((lim F pr).call 186 [vT s] [])
def ztj(a:ByteArray)(b:ByteArray):Option (Bool):=ask (R1 vF) ((lim F pr).call 278 [vT a,vT b] [])
def zvS(s:ByteArray)(at_:Int)(c:Int):Option (Bool):=ask (R1 vF) ((lim F pr).call 288 [vT s,vI at_,vR c] [])
def zvp(l:List Peer)(addr:Int):Option (Bool):=ask (R1 vF) ((lim F pr).call 271 [.lit 25 false (yab zad l),vH addr] [])
def zvf(s:ByteArray):Option (Bool):=ask (R1 vF) ((lim F pr).call 248 [vT s] [])
def zqo(s:ByteArray):Option ((List ByteArray)):=ask (R1 (eL 9 vT)) ((lim F pr).call 249 [vT s] [])
def zi4(s:ByteArray)(at_:Int):Option (Int):=ask (R1 vI) ((lim F pr).call 277 [vT s,vI at_] [])
def zi5(c:Int):Option (Bool):=ask (R1 vF) ((lim F pr).call 291 [vB c] [])
end Go.Ab.Tryz
namespace Go.Ab.Tryz
open Go Go.Ab Go.Proofs
set_option maxRecDepth 10000
set_option maxHeartbeats 4000000
open Go.ChangeShapes Go.WideShapes
open Go.DataW renaming trod->yak,trod_struct->yby
open List renaming mem_append->yal
def Peer.Ok(x:Peer):Prop:=OkU x.id/\OkH x.addr
theorem rd25{H:Type}{enc:TypeId×Value->H}{w:World}{base:Nat}{spare:Nat->Bool}{held:Bool}{fuel:Nat}{cs:List Value}{x:DataW H×List MemPlace}(h:yak enc Tryz.prog w base spare held fuel 25 cs=some x):∃a,Rd Tryz.prog w zad Peer.Ok cs a:=by
 obtain⟨xs,n,rfl,rfl,hl,hxl,hf⟩:=yby Tryz.underlying25 h;have hc:cs.length=2:=hl.trans (by kernel_rfl);have hx:xs.length=2:=hxl
 match cs,hc with
 | [c0,c1],_=>
  match xs,hx with
  | [x0,x1],_=>
   have h0:yak enc Tryz.prog w base spare held n 22 [c0]=some x0:=hf 0 _ rfl;obtain⟨a0,d0,o0,k0⟩:=zDh Tryz.underlying22 h0;have h1:yak enc Tryz.prog w base spare held n 23 [c1]=some x1:=hf 1 _ rfl;obtain⟨a1,d1,o1,k1⟩:=zPX Tryz.underlying23 h1;refine⟨⟨a0,a1⟩,(d0.append d1),fun c hc=>?_,k0,k1⟩;have hc:c∈(vU a0).cells++((vH a1).cells):=hc;simp only[yal]at hc;rcases hc with hc|hc
   ·exact o0 c hc
   ·exact o1 c hc
def Entry.Ok(x:Entry):Prop:=Peer.Ok x.peer/\OkI x.misses
theorem rd55{H:Type}{enc:TypeId×Value->H}{w:World}{base:Nat}{spare:Nat->Bool}{held:Bool}{fuel:Nat}{cs:List Value}{x:DataW H×List MemPlace}(h:yak enc Tryz.prog w base spare held fuel 55 cs=some x):∃a,Rd Tryz.prog w zaa Entry.Ok cs a:=by
 obtain⟨xs,n,rfl,rfl,hl,hxl,hf⟩:=yby Tryz.underlying55 h;have hc:cs.length=3:=hl.trans (by kernel_rfl);have hx:xs.length=2:=hxl
 match cs,hc with
 | [c0,c1,c2],_=>
  match xs,hx with
  | [x0,x1],_=>
   have h0:yak enc Tryz.prog w base spare held n 25 [c0,c1]=some x0:=hf 0 _ rfl;obtain⟨a0,d0,o0,k0⟩:=rd25 h0;have h1:yak enc Tryz.prog w base spare held n 3 [c2]=some x1:=hf 1 _ rfl;obtain⟨a1,d1,o1,k1⟩:=zcT Tryz.underlying3 h1;refine⟨⟨a0,a1⟩,(d0.append d1),fun c hc=>?_,k0,k1⟩;have hc:c∈(zad a0).cells++((vI a1).cells):=hc;simp only[yal]at hc;rcases hc with hc|hc
   ·exact o0 c hc
   ·exact o1 c hc
def Finger.Ok(x:Finger):Prop:=OkI x.bit/\Peer.Ok x.peer
theorem rd82{H:Type}{enc:TypeId×Value->H}{w:World}{base:Nat}{spare:Nat->Bool}{held:Bool}{fuel:Nat}{cs:List Value}{x:DataW H×List MemPlace}(h:yak enc Tryz.prog w base spare held fuel 82 cs=some x):∃a,Rd Tryz.prog w zab Finger.Ok cs a:=by
 obtain⟨xs,n,rfl,rfl,hl,hxl,hf⟩:=yby Tryz.underlying82 h;have hc:cs.length=3:=hl.trans (by kernel_rfl);have hx:xs.length=2:=hxl
 match cs,hc with
 | [c0,c1,c2],_=>
  match xs,hx with
  | [x0,x1],_=>
   have h0:yak enc Tryz.prog w base spare held n 3 [c0]=some x0:=hf 0 _ rfl;obtain⟨a0,d0,o0,k0⟩:=zcT Tryz.underlying3 h0;have h1:yak enc Tryz.prog w base spare held n 25 [c1,c2]=some x1:=hf 1 _ rfl;obtain⟨a1,d1,o1,k1⟩:=rd25 h1;refine⟨⟨a0,a1⟩,(d0.append d1),fun c hc=>?_,k0,k1⟩;have hc:c∈(vI a0).cells++((zad a1).cells):=hc;simp only[yal]at hc;rcases hc with hc|hc
   ·exact o0 c hc
   ·exact o1 c hc
def Pair.Ok(x:Pair):Prop:=OkT x.key/\OkT x.val
theorem rd76{H:Type}{enc:TypeId×Value->H}{w:World}{base:Nat}{spare:Nat->Bool}{held:Bool}{fuel:Nat}{cs:List Value}{x:DataW H×List MemPlace}(h:yak enc Tryz.prog w base spare held fuel 76 cs=some x):∃a,Rd Tryz.prog w zag Pair.Ok cs a:=by
 obtain⟨xs,n,rfl,rfl,hl,hxl,hf⟩:=yby Tryz.underlying76 h;have hc:cs.length=2:=hl.trans (by kernel_rfl);have hx:xs.length=2:=hxl
 match cs,hc with
 | [c0,c1],_=>
  match xs,hx with
  | [x0,x1],_=>
   have h0:yak enc Tryz.prog w base spare held n 9 [c0]=some x0:=hf 0 _ rfl;obtain⟨a0,d0,o0,k0⟩:=zg8 Tryz.underlying9 h0;have h1:yak enc Tryz.prog w base spare held n 9 [c1]=some x1:=hf 1 _ rfl;obtain⟨a1,d1,o1,k1⟩:=zg8 Tryz.underlying9 h1;refine⟨⟨a0,a1⟩,(d0.append d1),fun c hc=>?_,k0,k1⟩;have hc:c∈(vT a0).cells++((vT a1).cells):=hc;simp only[yal]at hc;rcases hc with hc|hc
   ·exact o0 c hc
   ·exact o1 c hc
def Pend.Ok(x:Pend):Prop:=OkW x.rid/\OkI x.kind/\OkI x.why/\OkI x.job/\Peer.Ok x.to_/\OkI x.due
theorem rd36{H:Type}{enc:TypeId×Value->H}{w:World}{base:Nat}{spare:Nat->Bool}{held:Bool}{fuel:Nat}{cs:List Value}{x:DataW H×List MemPlace}(h:yak enc Tryz.prog w base spare held fuel 36 cs=some x):∃a,Rd Tryz.prog w zaL Pend.Ok cs a:=by
 obtain⟨xs,n,rfl,rfl,hl,hxl,hf⟩:=yby Tryz.underlying36 h;have hc:cs.length=7:=hl.trans (by kernel_rfl);have hx:xs.length=6:=hxl
 match cs,hc with
 | [c0,c1,c2,c3,c4,c5,c6],_=>
  match xs,hx with
  | [x0,x1,x2,x3,x4,x5],_=>
   have h0:yak enc Tryz.prog w base spare held n 32 [c0]=some x0:=hf 0 _ rfl;obtain⟨a0,d0,o0,k0⟩:=zDg Tryz.underlying32 h0;have h1:yak enc Tryz.prog w base spare held n 3 [c1]=some x1:=hf 1 _ rfl;obtain⟨a1,d1,o1,k1⟩:=zcT Tryz.underlying3 h1;have h2:yak enc Tryz.prog w base spare held n 3 [c2]=some x2:=hf 2 _ rfl;obtain⟨a2,d2,o2,k2⟩:=zcT Tryz.underlying3 h2;have h3:yak enc Tryz.prog w base spare held n 3 [c3]=some x3:=hf 3 _ rfl;obtain⟨a3,d3,o3,k3⟩:=zcT Tryz.underlying3 h3;have h4:yak enc Tryz.prog w base spare held n 25 [c4,c5]=some x4:=hf 4 _ rfl;obtain⟨a4,d4,o4,k4⟩:=rd25 h4;have h5:yak enc Tryz.prog w base spare held n 3 [c6]=some x5:=hf 5 _ rfl;obtain⟨a5,d5,o5,k5⟩:=zcT Tryz.underlying3 h5;refine⟨⟨a0,a1,a2,a3,a4,a5⟩,(d0.append (d1.append (d2.append (d3.append (d4.append d5))))),fun c hc=>?_,k0,k1,k2,k3,k4,k5⟩;have hc:c∈(vW a0).cells++((vI a1).cells++((vI a2).cells++((vI a3).cells++((zad a4).cells++((vI a5).cells))))):=hc;simp only[yal]at hc;rcases hc with hc|hc|hc|hc|hc|hc
   ·exact o0 c hc
   ·exact o1 c hc
   ·exact o2 c hc
   ·exact o3 c hc
   ·exact o4 c hc
   ·exact o5 c hc
theorem arg36{H:Type}{enc:TypeId×Value->H}{w:World}{base:Nat}{spare:Nat->Bool}{held:Bool}{r:Reach}{b0:Nat}{v:Value}{d:DataW H}{ps:List MemPlace}(hval:Value.okWide Tryz.prog w r b0 36 v)(h:DataW.Trod enc Tryz.prog w base spare held 36 v d ps):∃a,DL Tryz.prog w (fun _=>False) [zaL a] [v]/\Pend.Ok a:=
 zsD (fun _=>⟨_,rfl⟩) Tryz.underlying36 hval (let⟨_,hf⟩:=h;rd36 hf)
def Job.Ok(x:Job):Prop:=OkI x.id/\OkI x.kind/\OkI x.bit/\OkT x.key/\OkT x.val/\OkU x.target/\Peer.Ok x.via/\Peer.Ok x.at_/\OkF x.doing/\OkI x.hops/\OkI x.tries/\OkI x.due
theorem rd57{H:Type}{enc:TypeId×Value->H}{w:World}{base:Nat}{spare:Nat->Bool}{held:Bool}{fuel:Nat}{cs:List Value}{x:DataW H×List MemPlace}(h:yak enc Tryz.prog w base spare held fuel 57 cs=some x):∃a,Rd Tryz.prog w eJob Job.Ok cs a:=by
 obtain⟨xs,n,rfl,rfl,hl,hxl,hf⟩:=yby Tryz.underlying57 h;have hc:cs.length=14:=hl.trans (by kernel_rfl);have hx:xs.length=12:=hxl
 match cs,hc with
 | [c0,c1,c2,c3,c4,c5,c6,c7,c8,c9,c10,c11,c12,c13],_=>
  match xs,hx with
  | [x0,x1,x2,x3,x4,x5,x6,x7,x8,x9,x10,x11],_=>
   have h0:yak enc Tryz.prog w base spare held n 3 [c0]=some x0:=hf 0 _ rfl;obtain⟨a0,d0,o0,k0⟩:=zcT Tryz.underlying3 h0;have h1:yak enc Tryz.prog w base spare held n 3 [c1]=some x1:=hf 1 _ rfl;obtain⟨a1,d1,o1,k1⟩:=zcT Tryz.underlying3 h1;have h2:yak enc Tryz.prog w base spare held n 3 [c2]=some x2:=hf 2 _ rfl;obtain⟨a2,d2,o2,k2⟩:=zcT Tryz.underlying3 h2;have h3:yak enc Tryz.prog w base spare held n 9 [c3]=some x3:=hf 3 _ rfl;obtain⟨a3,d3,o3,k3⟩:=zg8 Tryz.underlying9 h3;have h4:yak enc Tryz.prog w base spare held n 9 [c4]=some x4:=hf 4 _ rfl;obtain⟨a4,d4,o4,k4⟩:=zg8 Tryz.underlying9 h4;have h5:yak enc Tryz.prog w base spare held n 22 [c5]=some x5:=hf 5 _ rfl;obtain⟨a5,d5,o5,k5⟩:=zDh Tryz.underlying22 h5;have h6:yak enc Tryz.prog w base spare held n 25 [c6,c7]=some x6:=hf 6 _ rfl;obtain⟨a6,d6,o6,k6⟩:=rd25 h6;have h7:yak enc Tryz.prog w base spare held n 25 [c8,c9]=some x7:=hf 7 _ rfl;obtain⟨a7,d7,o7,k7⟩:=rd25 h7;have h8:yak enc Tryz.prog w base spare held n 4 [c10]=some x8:=hf 8 _ rfl;obtain⟨a8,d8,o8,k8⟩:=zwJ Tryz.underlying4 h8;have h9:yak enc Tryz.prog w base spare held n 3 [c11]=some x9:=hf 9 _ rfl;obtain⟨a9,d9,o9,k9⟩:=zcT Tryz.underlying3 h9;have h10:yak enc Tryz.prog w base spare held n 3 [c12]=some x10:=hf 10 _ rfl;obtain⟨a10,d10,o10,k10⟩:=zcT Tryz.underlying3 h10;have h11:yak enc Tryz.prog w base spare held n 3 [c13]=some x11:=hf 11 _ rfl;obtain⟨a11,d11,o11,k11⟩:=zcT Tryz.underlying3 h11;refine⟨⟨a0,a1,a2,a3,a4,a5,a6,a7,a8,a9,a10,a11⟩,(d0.append (d1.append (d2.append (d3.append (d4.append (d5.append (d6.append (d7.append (d8.append (d9.append (d10.append d11))))))))))),fun c hc=>?_,k0,k1,k2,k3,k4,k5,k6,k7,k8,k9,k10,k11⟩;have hc:c∈(vI a0).cells++((vI a1).cells++((vI a2).cells++((vT a3).cells++((vT a4).cells++((vU a5).cells++((zad a6).cells++((zad a7).cells++((vF a8).cells++((vI a9).cells++((vI a10).cells++((vI a11).cells))))))))))):=hc;simp only[yal]at hc;rcases hc with hc|hc|hc|hc|hc|hc|hc|hc|hc|hc|hc|hc
   ·exact o0 c hc
   ·exact o1 c hc
   ·exact o2 c hc
   ·exact o3 c hc
   ·exact o4 c hc
   ·exact o5 c hc
   ·exact o6 c hc
   ·exact o7 c hc
   ·exact o8 c hc
   ·exact o9 c hc
   ·exact o10 c hc
   ·exact o11 c hc
def Result.Ok(x:Result):Prop:=OkI x.job/\OkI x.kind/\OkT x.key/\OkT x.val/\OkF x.has/\OkI x.err
theorem rd74{H:Type}{enc:TypeId×Value->H}{w:World}{base:Nat}{spare:Nat->Bool}{held:Bool}{fuel:Nat}{cs:List Value}{x:DataW H×List MemPlace}(h:yak enc Tryz.prog w base spare held fuel 74 cs=some x):∃a,Rd Tryz.prog w zaj Result.Ok cs a:=by
 obtain⟨xs,n,rfl,rfl,hl,hxl,hf⟩:=yby Tryz.underlying74 h;have hc:cs.length=6:=hl.trans (by kernel_rfl);have hx:xs.length=6:=hxl
 match cs,hc with
 | [c0,c1,c2,c3,c4,c5],_=>
  match xs,hx with
  | [x0,x1,x2,x3,x4,x5],_=>
   have h0:yak enc Tryz.prog w base spare held n 3 [c0]=some x0:=hf 0 _ rfl;obtain⟨a0,d0,o0,k0⟩:=zcT Tryz.underlying3 h0;have h1:yak enc Tryz.prog w base spare held n 3 [c1]=some x1:=hf 1 _ rfl;obtain⟨a1,d1,o1,k1⟩:=zcT Tryz.underlying3 h1;have h2:yak enc Tryz.prog w base spare held n 9 [c2]=some x2:=hf 2 _ rfl;obtain⟨a2,d2,o2,k2⟩:=zg8 Tryz.underlying9 h2;have h3:yak enc Tryz.prog w base spare held n 9 [c3]=some x3:=hf 3 _ rfl;obtain⟨a3,d3,o3,k3⟩:=zg8 Tryz.underlying9 h3;have h4:yak enc Tryz.prog w base spare held n 4 [c4]=some x4:=hf 4 _ rfl;obtain⟨a4,d4,o4,k4⟩:=zwJ Tryz.underlying4 h4;have h5:yak enc Tryz.prog w base spare held n 61 [c5]=some x5:=hf 5 _ rfl;obtain⟨a5,d5,o5,k5⟩:=zcT Tryz.underlying61 h5;refine⟨⟨a0,a1,a2,a3,a4,a5⟩,(d0.append (d1.append (d2.append (d3.append (d4.append d5))))),fun c hc=>?_,k0,k1,k2,k3,k4,k5⟩;have hc:c∈(vI a0).cells++((vI a1).cells++((vT a2).cells++((vT a3).cells++((vF a4).cells++((vI a5).cells))))):=hc;simp only[yal]at hc;rcases hc with hc|hc|hc|hc|hc|hc
   ·exact o0 c hc
   ·exact o1 c hc
   ·exact o2 c hc
   ·exact o3 c hc
   ·exact o4 c hc
   ·exact o5 c hc
theorem rd26{H:Type}{enc:TypeId×Value->H}{w:World}{base:Nat}{spare:Nat->Bool}{held:Bool}{fuel:Nat}{cs:List Value}{x:DataW H×List MemPlace}(h:yak enc Tryz.prog w base spare held fuel 26 cs=some x):∃l,Rd Tryz.prog w (eL 55 zaa) (OkL Entry.Ok) cs l:=
 znh (size:=3) Tryz.underlying26 (by kernel_rfl) (by omega) (fun a=>rfl) h (fun n cs' y _ hy=>rd55 hy)
theorem rd27{H:Type}{enc:TypeId×Value->H}{w:World}{base:Nat}{spare:Nat->Bool}{held:Bool}{fuel:Nat}{cs:List Value}{x:DataW H×List MemPlace}(h:yak enc Tryz.prog w base spare held fuel 27 cs=some x):∃l,Rd Tryz.prog w (eL 82 zab) (OkL Finger.Ok) cs l:=
 znh (size:=3) Tryz.underlying27 (by kernel_rfl) (by omega) (fun a=>rfl) h (fun n cs' y _ hy=>rd82 hy)
theorem rd28{H:Type}{enc:TypeId×Value->H}{w:World}{base:Nat}{spare:Nat->Bool}{held:Bool}{fuel:Nat}{cs:List Value}{x:DataW H×List MemPlace}(h:yak enc Tryz.prog w base spare held fuel 28 cs=some x):∃l,Rd Tryz.prog w (eL 76 zag) (OkL Pair.Ok) cs l:=
 znh (size:=2) Tryz.underlying28 (by kernel_rfl) (by omega) (fun a=>rfl) h (fun n cs' y _ hy=>rd76 hy)
theorem rd29{H:Type}{enc:TypeId×Value->H}{w:World}{base:Nat}{spare:Nat->Bool}{held:Bool}{fuel:Nat}{cs:List Value}{x:DataW H×List MemPlace}(h:yak enc Tryz.prog w base spare held fuel 29 cs=some x):∃l,Rd Tryz.prog w (eL 36 zaL) (OkL Pend.Ok) cs l:=
 znh (size:=7) Tryz.underlying29 (by kernel_rfl) (by omega) (fun a=>rfl) h (fun n cs' y _ hy=>rd36 hy)
theorem rd30{H:Type}{enc:TypeId×Value->H}{w:World}{base:Nat}{spare:Nat->Bool}{held:Bool}{fuel:Nat}{cs:List Value}{x:DataW H×List MemPlace}(h:yak enc Tryz.prog w base spare held fuel 30 cs=some x):∃l,Rd Tryz.prog w (eL 57 eJob) (OkL Job.Ok) cs l:=
 znh (size:=14) Tryz.underlying30 (by kernel_rfl) (by omega) (fun a=>rfl) h (fun n cs' y _ hy=>rd57 hy)
theorem rd31{H:Type}{enc:TypeId×Value->H}{w:World}{base:Nat}{spare:Nat->Bool}{held:Bool}{fuel:Nat}{cs:List Value}{x:DataW H×List MemPlace}(h:yak enc Tryz.prog w base spare held fuel 31 cs=some x):∃l,Rd Tryz.prog w (eL 74 zaj) (OkL Result.Ok) cs l:=
 znh (size:=6) Tryz.underlying31 (by kernel_rfl) (by omega) (fun a=>rfl) h (fun n cs' y _ hy=>rd74 hy)
def Node.Ok(x:Node):Prop:=Peer.Ok x.me/\OkI x.clock/\OkF x.joined/\(OkL Entry.Ok) x.pred/\(OkL Entry.Ok) x.list/\(OkL Finger.Ok) x.fingers/\(OkL Pair.Ok) x.store/\(OkL Pend.Ok) x.pends/\(OkL Job.Ok) x.jobs/\(OkL Result.Ok) x.results/\OkW x.rid/\OkI x.jobID/\OkI x.nextBit
theorem rd34{H:Type}{enc:TypeId×Value->H}{w:World}{base:Nat}{spare:Nat->Bool}{held:Bool}{fuel:Nat}{cs:List Value}{x:DataW H×List MemPlace}(h:yak enc Tryz.prog w base spare held fuel 34 cs=some x):∃a,Rd Tryz.prog w zaI Node.Ok cs a:=by
 obtain⟨xs,n,rfl,rfl,hl,hxl,hf⟩:=yby Tryz.underlying34 h;have hc:cs.length=14:=hl.trans (by kernel_rfl);have hx:xs.length=13:=hxl
 match cs,hc with
 | [c0,c1,c2,c3,c4,c5,c6,c7,c8,c9,c10,c11,c12,c13],_=>
  match xs,hx with
  | [x0,x1,x2,x3,x4,x5,x6,x7,x8,x9,x10,x11,x12],_=>
   have h0:yak enc Tryz.prog w base spare held n 25 [c0,c1]=some x0:=hf 0 _ rfl;obtain⟨a0,d0,o0,k0⟩:=rd25 h0;have h1:yak enc Tryz.prog w base spare held n 3 [c2]=some x1:=hf 1 _ rfl;obtain⟨a1,d1,o1,k1⟩:=zcT Tryz.underlying3 h1;have h2:yak enc Tryz.prog w base spare held n 4 [c3]=some x2:=hf 2 _ rfl;obtain⟨a2,d2,o2,k2⟩:=zwJ Tryz.underlying4 h2;have h3:yak enc Tryz.prog w base spare held n 26 [c4]=some x3:=hf 3 _ rfl;obtain⟨a3,d3,o3,k3⟩:=rd26 h3;have h4:yak enc Tryz.prog w base spare held n 26 [c5]=some x4:=hf 4 _ rfl;obtain⟨a4,d4,o4,k4⟩:=rd26 h4;have h5:yak enc Tryz.prog w base spare held n 27 [c6]=some x5:=hf 5 _ rfl;obtain⟨a5,d5,o5,k5⟩:=rd27 h5;have h6:yak enc Tryz.prog w base spare held n 28 [c7]=some x6:=hf 6 _ rfl;obtain⟨a6,d6,o6,k6⟩:=rd28 h6;have h7:yak enc Tryz.prog w base spare held n 29 [c8]=some x7:=hf 7 _ rfl;obtain⟨a7,d7,o7,k7⟩:=rd29 h7;have h8:yak enc Tryz.prog w base spare held n 30 [c9]=some x8:=hf 8 _ rfl;obtain⟨a8,d8,o8,k8⟩:=rd30 h8;have h9:yak enc Tryz.prog w base spare held n 31 [c10]=some x9:=hf 9 _ rfl;obtain⟨a9,d9,o9,k9⟩:=rd31 h9;have h10:yak enc Tryz.prog w base spare held n 32 [c11]=some x10:=hf 10 _ rfl;obtain⟨a10,d10,o10,k10⟩:=zDg Tryz.underlying32 h10;have h11:yak enc Tryz.prog w base spare held n 3 [c12]=some x11:=hf 11 _ rfl;obtain⟨a11,d11,o11,k11⟩:=zcT Tryz.underlying3 h11;have h12:yak enc Tryz.prog w base spare held n 3 [c13]=some x12:=hf 12 _ rfl;obtain⟨a12,d12,o12,k12⟩:=zcT Tryz.underlying3 h12;refine⟨⟨a0,a1,a2,a3,a4,a5,a6,a7,a8,a9,a10,a11,a12⟩,(d0.append (d1.append (d2.append (d3.append (d4.append (d5.append (d6.append (d7.append (d8.append (d9.append (d10.append (d11.append d12)))))))))))),fun c hc=>?_,k0,k1,k2,k3,k4,k5,k6,k7,k8,k9,k10,k11,k12⟩;have hc:c∈(zad a0).cells++((vI a1).cells++((vF a2).cells++(((eL 55 zaa) a3).cells++(((eL 55 zaa) a4).cells++(((eL 82 zab) a5).cells++(((eL 76 zag) a6).cells++(((eL 36 zaL) a7).cells++(((eL 57 eJob) a8).cells++(((eL 74 zaj) a9).cells++((vW a10).cells++((vI a11).cells++((vI a12).cells)))))))))))):=hc;simp only[yal]at hc;rcases hc with hc|hc|hc|hc|hc|hc|hc|hc|hc|hc|hc|hc|hc
   ·exact o0 c hc
   ·exact o1 c hc
   ·exact o2 c hc
   ·exact o3 c hc
   ·exact o4 c hc
   ·exact o5 c hc
   ·exact o6 c hc
   ·exact o7 c hc
   ·exact o8 c hc
   ·exact o9 c hc
   ·exact o10 c hc
   ·exact o11 c hc
   ·exact o12 c hc
theorem arg34{H:Type}{enc:TypeId×Value->H}{w:World}{base:Nat}{spare:Nat->Bool}{held:Bool}{r:Reach}{b0:Nat}{v:Value}{d:DataW H}{ps:List MemPlace}(hval:Value.okWide Tryz.prog w r b0 34 v)(h:DataW.Trod enc Tryz.prog w base spare held 34 v d ps):∃a,DL Tryz.prog w (fun _=>False) [zaI a] [v]/\Node.Ok a:=
 zsD (fun _=>⟨_,rfl⟩) Tryz.underlying34 hval (let⟨_,hf⟩:=h;rd34 hf)
theorem rd37{H:Type}{enc:TypeId×Value->H}{w:World}{base:Nat}{spare:Nat->Bool}{held:Bool}{fuel:Nat}{cs:List Value}{x:DataW H×List MemPlace}(h:yak enc Tryz.prog w base spare held fuel 37 cs=some x):∃l,Rd Tryz.prog w (eL 25 zad) (OkL Peer.Ok) cs l:=
 znh (size:=2) Tryz.underlying37 (by kernel_rfl) (by omega) (fun a=>rfl) h (fun n cs' y _ hy=>rd25 hy)
def Msg.Ok(x:Msg):Prop:=OkI x.kind/\OkW x.rid/\OkB x.code/\OkF x.has/\OkU x.id/\OkT x.key/\OkT x.val/\Peer.Ok x.peer/\(OkL Peer.Ok) x.peers/\(OkL Pair.Ok) x.pairs
theorem rd39{H:Type}{enc:TypeId×Value->H}{w:World}{base:Nat}{spare:Nat->Bool}{held:Bool}{fuel:Nat}{cs:List Value}{x:DataW H×List MemPlace}(h:yak enc Tryz.prog w base spare held fuel 39 cs=some x):∃a,Rd Tryz.prog w eMsg Msg.Ok cs a:=by
 obtain⟨xs,n,rfl,rfl,hl,hxl,hf⟩:=yby Tryz.underlying39 h;have hc:cs.length=11:=hl.trans (by kernel_rfl);have hx:xs.length=10:=hxl
 match cs,hc with
 | [c0,c1,c2,c3,c4,c5,c6,c7,c8,c9,c10],_=>
  match xs,hx with
  | [x0,x1,x2,x3,x4,x5,x6,x7,x8,x9],_=>
   have h0:yak enc Tryz.prog w base spare held n 3 [c0]=some x0:=hf 0 _ rfl;obtain⟨a0,d0,o0,k0⟩:=zcT Tryz.underlying3 h0;have h1:yak enc Tryz.prog w base spare held n 32 [c1]=some x1:=hf 1 _ rfl;obtain⟨a1,d1,o1,k1⟩:=zDg Tryz.underlying32 h1;have h2:yak enc Tryz.prog w base spare held n 5 [c2]=some x2:=hf 2 _ rfl;obtain⟨a2,d2,o2,k2⟩:=rd_u8 Tryz.underlying5 h2;have h3:yak enc Tryz.prog w base spare held n 4 [c3]=some x3:=hf 3 _ rfl;obtain⟨a3,d3,o3,k3⟩:=zwJ Tryz.underlying4 h3;have h4:yak enc Tryz.prog w base spare held n 22 [c4]=some x4:=hf 4 _ rfl;obtain⟨a4,d4,o4,k4⟩:=zDh Tryz.underlying22 h4;have h5:yak enc Tryz.prog w base spare held n 9 [c5]=some x5:=hf 5 _ rfl;obtain⟨a5,d5,o5,k5⟩:=zg8 Tryz.underlying9 h5;have h6:yak enc Tryz.prog w base spare held n 9 [c6]=some x6:=hf 6 _ rfl;obtain⟨a6,d6,o6,k6⟩:=zg8 Tryz.underlying9 h6;have h7:yak enc Tryz.prog w base spare held n 25 [c7,c8]=some x7:=hf 7 _ rfl;obtain⟨a7,d7,o7,k7⟩:=rd25 h7;have h8:yak enc Tryz.prog w base spare held n 37 [c9]=some x8:=hf 8 _ rfl;obtain⟨a8,d8,o8,k8⟩:=rd37 h8;have h9:yak enc Tryz.prog w base spare held n 28 [c10]=some x9:=hf 9 _ rfl;obtain⟨a9,d9,o9,k9⟩:=rd28 h9;refine⟨⟨a0,a1,a2,a3,a4,a5,a6,a7,a8,a9⟩,(d0.append (d1.append (d2.append (d3.append (d4.append (d5.append (d6.append (d7.append (d8.append d9))))))))),fun c hc=>?_,k0,k1,k2,k3,k4,k5,k6,k7,k8,k9⟩;have hc:c∈(vI a0).cells++((vW a1).cells++((vB a2).cells++((vF a3).cells++((vU a4).cells++((vT a5).cells++((vT a6).cells++((zad a7).cells++(((eL 25 zad) a8).cells++(((eL 76 zag) a9).cells))))))))):=hc;simp only[yal]at hc;rcases hc with hc|hc|hc|hc|hc|hc|hc|hc|hc|hc
   ·exact o0 c hc
   ·exact o1 c hc
   ·exact o2 c hc
   ·exact o3 c hc
   ·exact o4 c hc
   ·exact o5 c hc
   ·exact o6 c hc
   ·exact o7 c hc
   ·exact o8 c hc
   ·exact o9 c hc
theorem arg39{H:Type}{enc:TypeId×Value->H}{w:World}{base:Nat}{spare:Nat->Bool}{held:Bool}{r:Reach}{b0:Nat}{v:Value}{d:DataW H}{ps:List MemPlace}(hval:Value.okWide Tryz.prog w r b0 39 v)(h:DataW.Trod enc Tryz.prog w base spare held 39 v d ps):∃a,DL Tryz.prog w (fun _=>False) [eMsg a] [v]/\Msg.Ok a:=
 zsD (fun _=>⟨_,rfl⟩) Tryz.underlying39 hval (let⟨_,hf⟩:=h;rd39 hf)
end Go.Ab.Tryz
