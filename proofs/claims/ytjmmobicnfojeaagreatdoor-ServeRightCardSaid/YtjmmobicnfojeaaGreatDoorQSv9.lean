/- Our texts for this statement, merged: what its theorem leads to. -/
import Derived.Test.YtjmmobicnfojeaaGreatDoorChecked
import Derived.Test.YtjmmobicnfojeaaGreatDoorQSv4
import Derived.Test.YtjmmobicnfojeaaGreatDoorQSv5
import Derived.Test.YtjmmobicnfojeaaGreatDoorQSv6
import Derived.Test.YtjmmobicnfojeaaGreatDoorQSv7
import Derived.Test.YtjmmobicnfojeaaGreatDoorQSv8
set_option linter.unusedVariables false
set_option linter.unusedSimpArgs false
noncomputable section
namespace Go.Ab.Tryz
open Go Go.Ab Go.Proofs
set_option maxHeartbeats 4000000
def F:FuncId → Option Fn
 | 3=>some g3
 | 4=>some g4
 | 5=>some g5
 | 9=>some g9
 | 11=>some g11
 | 12=>some g12
 | 13=>some g13
 | 14=>some g14
 | 15=>some g15
 | 16=>some g16
 | 17=>some g17
 | 18=>some g18
 | 19=>some g19
 | 20=>some g20
 | 21=>some g21
 | 22=>some g22
 | 23=>some g23
 | 24=>some g24
 | 25=>some g25
 | 35=>some g35
 | 36=>some g36
 | 37=>some g37
 | 38=>some g38
 | 39=>some g39
 | 40=>some g40
 | 54=>some g54
 | 55=>some g55
 | 56=>some g56
 | 57=>some g57
 | 58=>some g58
 | 59=>some g59
 | 60=>some g60
 | 61=>some g61
 | 62=>some g62
 | 63=>some g63
 | 64=>some g64
 | 65=>some g65
 | 66=>some g66
 | 67=>some g67
 | 68=>some g68
 | 69=>some g69
 | 70=>some g70
 | 71=>some g71
 | 72=>some g72
 | 73=>some g73
 | 74=>some g74
 | 75=>some g75
 | 76=>some g76
 | 77=>some g77
 | 78=>some g78
 | 80=>some g80
 | 82=>some g82
 | 83=>some g83
 | 84=>some g84
 | 85=>some g85
 | 86=>some g86
 | 88=>some g88
 | 90=>some g90
 | 98=>some g98
 | 99=>some g99
 | 100=>some g100
 | 101=>some g101
 | 102=>some g102
 | 103=>some g103
 | 104=>some g104
 | 105=>some g105
 | 106=>some g106
 | 107=>some g107
 | 108=>some g108
 | 116=>some g116
 | 121=>some g121
 | 122=>some g122
 | 123=>some g123
 | 124=>some g124
 | 125=>some g125
 | 126=>some g126
 | 127=>some g127
 | 128=>some g128
 | 129=>some g129
 | 130=>some g130
 | 131=>some g131
 | 132=>some g132
 | 133=>some g133
 | 134=>some g134
 | 135=>some g135
 | 136=>some g136
 | 137=>some g137
 | 138=>some g138
 | 139=>some g139
 | 140=>some g140
 | 141=>some g141
 | 142=>some g142
 | 143=>some g143
 | 145=>some g145
 | 146=>some g146
 | 147=>some g147
 | 149=>some g149
 | 150=>some g150
 | 151=>some g151
 | 152=>some g152
 | 153=>some g153
 | 155=>some g155
 | 156=>some g156
 | 158=>some g158
 | 159=>some g159
 | 164=>some g164
 | 165=>some g165
 | 166=>some g166
 | 167=>some g167
 | 168=>some g168
 | 170=>some g170
 | 171=>some g171
 | 172=>some g172
 | 173=>some g173
 | 178=>some g178
 | 186=>some g186
 | 187=>some g187
 | 188=>some g188
 | 189=>some g189
 | 190=>some g190
 | 191=>some g191
 | 192=>some g192
 | 193=>some g193
 | 194=>some g194
 | 195=>some g195
 | 197=>some g197
 | 198=>some g198
 | 199=>some g199
 | 200=>some g200
 | 201=>some g201
 | 202=>some g202
 | 207=>some g207
 | 208=>some g208
 | 221=>some g221
 | 227=>some g227
 | 228=>some g228
 | _=>none
theorem F_ok:∀ f fn,F f=some fn → ∃ md fz,zaj Tryz.prog md fz f=some fn:=by
 intro f fn h
 unfold F at h
 split at h
 ·cases h;exact ⟨_,_,cmp3⟩
 ·cases h;exact ⟨_,_,cmp4⟩
 ·cases h;exact ⟨_,_,cmp5⟩
 ·cases h;exact ⟨_,_,cmp9⟩
 ·cases h;exact ⟨_,_,cmp11⟩
 ·cases h;exact ⟨_,_,cmp12⟩
 ·cases h;exact ⟨_,_,cmp13⟩
 ·cases h;exact ⟨_,_,cmp14⟩
 ·cases h;exact ⟨_,_,cmp15⟩
 ·cases h;exact ⟨_,_,cmp16⟩
 ·cases h;exact ⟨_,_,cmp17⟩
 ·cases h;exact ⟨_,_,cmp18⟩
 ·cases h;exact ⟨_,_,cmp19⟩
 ·cases h;exact ⟨_,_,cmp20⟩
 ·cases h;exact ⟨_,_,cmp21⟩
 ·cases h;exact ⟨_,_,cmp22⟩
 ·cases h;exact ⟨_,_,cmp23⟩
 ·cases h;exact ⟨_,_,cmp24⟩
 ·cases h;exact ⟨_,_,cmp25⟩
 ·cases h;exact ⟨_,_,cmp35⟩
 ·cases h;exact ⟨_,_,cmp36⟩
 ·cases h;exact ⟨_,_,cmp37⟩
 ·cases h;exact ⟨_,_,cmp38⟩
 ·cases h;exact ⟨_,_,cmp39⟩
 ·cases h;exact ⟨_,_,cmp40⟩
 ·cases h;exact ⟨_,_,cmp54⟩
 ·cases h;exact ⟨_,_,cmp55⟩
 ·cases h;exact ⟨_,_,cmp56⟩
 ·cases h;exact ⟨_,_,cmp57⟩
 ·cases h;exact ⟨_,_,cmp58⟩
 ·cases h;exact ⟨_,_,cmp59⟩
 ·cases h;exact ⟨_,_,cmp60⟩
 ·cases h;exact ⟨_,_,cmp61⟩
 ·cases h;exact ⟨_,_,cmp62⟩
 ·cases h;exact ⟨_,_,cmp63⟩
 ·cases h;exact ⟨_,_,cmp64⟩
 ·cases h;exact ⟨_,_,cmp65⟩
 ·cases h;exact ⟨_,_,cmp66⟩
 ·cases h;exact ⟨_,_,cmp67⟩
 ·cases h;exact ⟨_,_,cmp68⟩
 ·cases h;exact ⟨_,_,cmp69⟩
 ·cases h;exact ⟨_,_,cmp70⟩
 ·cases h;exact ⟨_,_,cmp71⟩
 ·cases h;exact ⟨_,_,cmp72⟩
 ·cases h;exact ⟨_,_,cmp73⟩
 ·cases h;exact ⟨_,_,cmp74⟩
 ·cases h;exact ⟨_,_,cmp75⟩
 ·cases h;exact ⟨_,_,cmp76⟩
 ·cases h;exact ⟨_,_,cmp77⟩
 ·cases h;exact ⟨_,_,cmp78⟩
 ·cases h;exact ⟨_,_,cmp80⟩
 ·cases h;exact ⟨_,_,cmp82⟩
 ·cases h;exact ⟨_,_,cmp83⟩
 ·cases h;exact ⟨_,_,cmp84⟩
 ·cases h;exact ⟨_,_,cmp85⟩
 ·cases h;exact ⟨_,_,cmp86⟩
 ·cases h;exact ⟨_,_,cmp88⟩
 ·cases h;exact ⟨_,_,cmp90⟩
 ·cases h;exact ⟨_,_,cmp98⟩
 ·cases h;exact ⟨_,_,cmp99⟩
 ·cases h;exact ⟨_,_,zJ4⟩
 ·cases h;exact ⟨_,_,zJ5⟩
 ·cases h;exact ⟨_,_,zJ6⟩
 ·cases h;exact ⟨_,_,zJ7⟩
 ·cases h;exact ⟨_,_,zJ8⟩
 ·cases h;exact ⟨_,_,zJ9⟩
 ·cases h;exact ⟨_,_,zKa⟩
 ·cases h;exact ⟨_,_,zKb⟩
 ·cases h;exact ⟨_,_,zKc⟩
 ·cases h;exact ⟨_,_,zKd⟩
 ·cases h;exact ⟨_,_,zKe⟩
 ·cases h;exact ⟨_,_,zKf⟩
 ·cases h;exact ⟨_,_,zKg⟩
 ·cases h;exact ⟨_,_,zKh⟩
 ·cases h;exact ⟨_,_,zKi⟩
 ·cases h;exact ⟨_,_,zKj⟩
 ·cases h;exact ⟨_,_,zKk⟩
 ·cases h;exact ⟨_,_,zKl⟩
 ·cases h;exact ⟨_,_,zKm⟩
 ·cases h;exact ⟨_,_,zKn⟩
 ·cases h;exact ⟨_,_,zKo⟩
 ·cases h;exact ⟨_,_,zKp⟩
 ·cases h;exact ⟨_,_,zKq⟩
 ·cases h;exact ⟨_,_,zKr⟩
 ·cases h;exact ⟨_,_,zKs⟩
 ·cases h;exact ⟨_,_,zKt⟩
 ·cases h;exact ⟨_,_,zKu⟩
 ·cases h;exact ⟨_,_,zKv⟩
 ·cases h;exact ⟨_,_,zKw⟩
 ·cases h;exact ⟨_,_,zKx⟩
 ·cases h;exact ⟨_,_,zKy⟩
 ·cases h;exact ⟨_,_,zKz⟩
 ·cases h;exact ⟨_,_,zKA⟩
 ·cases h;exact ⟨_,_,zKB⟩
 ·cases h;exact ⟨_,_,zKC⟩
 ·cases h;exact ⟨_,_,zKD⟩
 ·cases h;exact ⟨_,_,zKE⟩
 ·cases h;exact ⟨_,_,zKF⟩
 ·cases h;exact ⟨_,_,zKG⟩
 ·cases h;exact ⟨_,_,zKH⟩
 ·cases h;exact ⟨_,_,zKI⟩
 ·cases h;exact ⟨_,_,zKJ⟩
 ·cases h;exact ⟨_,_,zKK⟩
 ·cases h;exact ⟨_,_,zKL⟩
 ·cases h;exact ⟨_,_,zKM⟩
 ·cases h;exact ⟨_,_,zKN⟩
 ·cases h;exact ⟨_,_,zKO⟩
 ·cases h;exact ⟨_,_,zKP⟩
 ·cases h;exact ⟨_,_,zKQ⟩
 ·cases h;exact ⟨_,_,zKR⟩
 ·cases h;exact ⟨_,_,zKS⟩
 ·cases h;exact ⟨_,_,zKT⟩
 ·cases h;exact ⟨_,_,zKU⟩
 ·cases h;exact ⟨_,_,zKV⟩
 ·cases h;exact ⟨_,_,zKW⟩
 ·cases h;exact ⟨_,_,zKX⟩
 ·cases h;exact ⟨_,_,zKY⟩
 ·cases h;exact ⟨_,_,zKZ⟩
 ·cases h;exact ⟨_,_,zK0⟩
 ·cases h;exact ⟨_,_,zK1⟩
 ·cases h;exact ⟨_,_,zK2⟩
 ·cases h;exact ⟨_,_,zK3⟩
 ·cases h;exact ⟨_,_,zK4⟩
 ·cases h;exact ⟨_,_,zK5⟩
 ·cases h;exact ⟨_,_,zK6⟩
 ·cases h;exact ⟨_,_,zK7⟩
 ·cases h;exact ⟨_,_,zK8⟩
 ·cases h;exact ⟨_,_,zK9⟩
 ·cases h;exact ⟨_,_,zLa⟩
 ·cases h;exact ⟨_,_,zLb⟩
 ·cases h;exact ⟨_,_,zLc⟩
 ·cases h;exact ⟨_,_,zLd⟩
 ·cases h;exact ⟨_,_,zLe⟩
 ·cases h;exact ⟨_,_,zLf⟩
 ·cases h;exact ⟨_,_,zLi⟩
 ·cases h;exact ⟨_,_,zLj⟩
 ·cases h
end Go.Ab.Tryz
namespace Go.Ab.Tryz
open Go Go.Ab Go.Proofs
set_option maxRecDepth 10000
set_option maxHeartbeats 4000000
structure Peer where
 id:Int
 addr:Int
 deriving DecidableEq
def zaf (x:Peer):AV:=.agg [vU x.id,vH x.addr]
theorem Peer.ext' {a b:Peer}:a=b ↔ a.id=b.id ∧ a.addr=b.addr:=by cases a;cases b;simp
instance:Inj zaf:=⟨fun a b h=>by
 obtain ⟨_,_⟩:=a;obtain ⟨_,_⟩:=b
 simp only [zaf,AV.agg.injEq,List.cons.injEq,AV.sc.injEq,Value.int.injEq,Value.bool.injEq,Value.string.injEq,AV.lit.injEq,zds,and_true,true_and,and_assoc] at h
 simp only [Peer.mk.injEq,and_assoc];simpa only [Peer.mk.injEq,and_assoc] using h⟩
theorem zEX {a b:Peer}:zaf a=zaf b ↔ a=b:=⟨Inj.inj a b,fun h=>by rw [h]⟩
structure Entry where
 peer:Peer
 misses:Int
 deriving DecidableEq
def zag (x:Entry):AV:=.agg [vU x.peer.id,vH x.peer.addr,vI x.misses]
theorem Entry.ext' {a b:Entry}:a=b ↔ a.peer=b.peer ∧ a.misses=b.misses:=by cases a;cases b;simp
instance:Inj zag:=⟨fun a b h=>by
 obtain ⟨⟨_,_⟩,_⟩:=a;obtain ⟨⟨_,_⟩,_⟩:=b
 simp only [zag,AV.agg.injEq,List.cons.injEq,AV.sc.injEq,Value.int.injEq,Value.bool.injEq,Value.string.injEq,AV.lit.injEq,zds,and_true,true_and,and_assoc] at h
 simp_all⟩
theorem zCU {a b:Entry}:zag a=zag b ↔ a=b:=⟨Inj.inj a b,fun h=>by rw [h]⟩
structure Finger where
 bit:Int
 peer:Peer
 deriving DecidableEq
def zaU (x:Finger):AV:=.agg [vI x.bit,vU x.peer.id,vH x.peer.addr]
theorem Finger.ext' {a b:Finger}:a=b ↔ a.bit=b.bit ∧ a.peer=b.peer:=by cases a;cases b;simp
instance:Inj zaU:=⟨fun a b h=>by
 obtain ⟨_,⟨_,_⟩⟩:=a;obtain ⟨_,⟨_,_⟩⟩:=b
 simp only [zaU,AV.agg.injEq,List.cons.injEq,AV.sc.injEq,Value.int.injEq,Value.bool.injEq,Value.string.injEq,AV.lit.injEq,zds,and_true,true_and,and_assoc] at h
 simp_all⟩
theorem zAC {a b:Finger}:zaU a=zaU b ↔ a=b:=⟨Inj.inj a b,fun h=>by rw [h]⟩
structure Pair where
 key:ByteArray
 val:ByteArray
 deriving DecidableEq
def zae (x:Pair):AV:=.agg [vT x.key,vT x.val]
theorem Pair.ext' {a b:Pair}:a=b ↔ a.key=b.key ∧ a.val=b.val:=by cases a;cases b;simp
instance:Inj zae:=⟨fun a b h=>by
 obtain ⟨_,_⟩:=a;obtain ⟨_,_⟩:=b
 simp only [zae,AV.agg.injEq,List.cons.injEq,AV.sc.injEq,Value.int.injEq,Value.bool.injEq,Value.string.injEq,AV.lit.injEq,zds,and_true,true_and,and_assoc] at h
 simp only [Pair.mk.injEq,and_assoc];simpa only [Pair.mk.injEq,and_assoc] using h⟩
theorem zEW {a b:Pair}:zae a=zae b ↔ a=b:=⟨Inj.inj a b,fun h=>by rw [h]⟩
structure Pend where
 rid:Int
 kind:Int
 why:Int
 job:Int
 to_:Peer
 due:Int
 deriving DecidableEq
def zbe (x:Pend):AV:=.agg [vW x.rid,vI x.kind,vI x.why,vI x.job,vU x.to_.id,vH x.to_.addr,vI x.due]
theorem Pend.ext' {a b:Pend}:a=b ↔ a.rid=b.rid ∧ a.kind=b.kind ∧ a.why=b.why ∧ a.job=b.job ∧ a.to_=b.to_ ∧ a.due=b.due:=by cases a;cases b;simp
instance:Inj zbe:=⟨fun a b h=>by
 obtain ⟨_,_,_,_,⟨_,_⟩,_⟩:=a;obtain ⟨_,_,_,_,⟨_,_⟩,_⟩:=b
 simp only [zbe,AV.agg.injEq,List.cons.injEq,AV.sc.injEq,Value.int.injEq,Value.bool.injEq,Value.string.injEq,AV.lit.injEq,zds,and_true,true_and,and_assoc] at h
 simp_all⟩
theorem zEY {a b:Pend}:zbe a=zbe b ↔ a=b:=⟨Inj.inj a b,fun h=>by rw [h]⟩
structure Job where
 id:Int
 kind:Int
 bit:Int
 key:ByteArray
 val:ByteArray
 target:Int
 via:Peer
 at_:Peer
 doing:Bool
 hops:Int
 tries:Int
 due:Int
 deriving DecidableEq
def eJob (x:Job):AV:=.agg [vI x.id,vI x.kind,vI x.bit,vT x.key,vT x.val,vU x.target,vU x.via.id,vH x.via.addr,vU x.at_.id,vH x.at_.addr,vF x.doing,vI x.hops,vI x.tries,vI x.due]
theorem Job.ext' {a b:Job}:a=b ↔ a.id=b.id ∧ a.kind=b.kind ∧ a.bit=b.bit ∧ a.key=b.key ∧ a.val=b.val ∧ a.target=b.target ∧ a.via=b.via ∧ a.at_=b.at_ ∧ a.doing=b.doing ∧ a.hops=b.hops ∧ a.tries=b.tries ∧ a.due=b.due:=by cases a;cases b;simp
instance:Inj eJob:=⟨fun a b h=>by
 obtain ⟨_,_,_,_,_,_,⟨_,_⟩,⟨_,_⟩,_,_,_,_⟩:=a;obtain ⟨_,_,_,_,_,_,⟨_,_⟩,⟨_,_⟩,_,_,_,_⟩:=b
 simp only [eJob,AV.agg.injEq,List.cons.injEq,AV.sc.injEq,Value.int.injEq,Value.bool.injEq,Value.string.injEq,AV.lit.injEq,zds,and_true,true_and,and_assoc] at h
 simp_all⟩
theorem zGt {a b:Job}:eJob a=eJob b ↔ a=b:=⟨Inj.inj a b,fun h=>by rw [h]⟩
structure Result where
 job:Int
 kind:Int
 key:ByteArray
 val:ByteArray
 has:Bool
 err:Int
 deriving DecidableEq
def za7 (x:Result):AV:=.agg [vI x.job,vI x.kind,vT x.key,vT x.val,vF x.has,vI x.err]
theorem Result.ext' {a b:Result}:a=b ↔ a.job=b.job ∧ a.kind=b.kind ∧ a.key=b.key ∧ a.val=b.val ∧ a.has=b.has ∧ a.err=b.err:=by cases a;cases b;simp
instance:Inj za7:=⟨fun a b h=>by
 obtain ⟨_,_,_,_,_,_⟩:=a;obtain ⟨_,_,_,_,_,_⟩:=b
 simp only [za7,AV.agg.injEq,List.cons.injEq,AV.sc.injEq,Value.int.injEq,Value.bool.injEq,Value.string.injEq,AV.lit.injEq,zds,and_true,true_and,and_assoc] at h
 simp only [Result.mk.injEq,and_assoc];simpa only [Result.mk.injEq,and_assoc] using h⟩
theorem zAD {a b:Result}:za7 a=za7 b ↔ a=b:=⟨Inj.inj a b,fun h=>by rw [h]⟩
structure Node where
 me:Peer
 clock:Int
 joined:Bool
 pred:List Entry
 list:List Entry
 fingers:List Finger
 store:List Pair
 pends:List Pend
 jobs:List Job
 results:List Result
 rid:Int
 jobID:Int
 nextBit:Int
 deriving DecidableEq
def zbc (x:Node):AV:=.agg [vU x.me.id,vH x.me.addr,vI x.clock,vF x.joined,.lit 81 false (List.map zag x.pred),.lit 81 false (List.map zag x.list),.lit 84 false (List.map zaU x.fingers),.lit 78 false (List.map zae x.store),.lit 88 false (List.map zbe x.pends),.lit 67 false (List.map eJob x.jobs),.lit 60 false (List.map za7 x.results),vW x.rid,vI x.jobID,vI x.nextBit]
theorem Node.ext' {a b:Node}:a=b ↔ a.me=b.me ∧ a.clock=b.clock ∧ a.joined=b.joined ∧ a.pred=b.pred ∧ a.list=b.list ∧ a.fingers=b.fingers ∧ a.store=b.store ∧ a.pends=b.pends ∧ a.jobs=b.jobs ∧ a.results=b.results ∧ a.rid=b.rid ∧ a.jobID=b.jobID ∧ a.nextBit=b.nextBit:=by cases a;cases b;simp
instance:Inj zbc:=⟨fun a b h=>by
 obtain ⟨⟨_,_⟩,_,_,_,_,_,_,_,_,_,_,_,_⟩:=a;obtain ⟨⟨_,_⟩,_,_,_,_,_,_,_,_,_,_,_,_⟩:=b
 simp only [zbc,AV.agg.injEq,List.cons.injEq,AV.sc.injEq,Value.int.injEq,Value.bool.injEq,Value.string.injEq,AV.lit.injEq,zds,and_true,true_and,and_assoc] at h
 simp_all⟩
theorem zEV {a b:Node}:zbc a=zbc b ↔ a=b:=⟨Inj.inj a b,fun h=>by rw [h]⟩
def zau (x:Node):List AV:=[vU x.me.id,vH x.me.addr,vI x.clock,vF x.joined,.lit 81 false (List.map zag x.pred),.lit 81 false (List.map zag x.list),.lit 84 false (List.map zaU x.fingers),.lit 78 false (List.map zae x.store),.lit 88 false (List.map zbe x.pends),.lit 67 false (List.map eJob x.jobs),.lit 60 false (List.map za7 x.results),vW x.rid,vI x.jobID,vI x.nextBit]
theorem zw8 {a b:Node}:zau a=zau b ↔ a=b:=⟨fun h=>Inj.inj (e:=zbc) a b (congrArg AV.agg h),fun h=>by rw [h]⟩
theorem zEN {a b:Node} {l l':List AV}:capp (zau a) l=capp (zau b) l' ↔ a=b ∧ l=l':=⟨fun h=>by rw [ztG,ztG] at h;obtain ⟨h1,h2⟩:=List.append_inj h rfl;exact ⟨zw8.1 h1,h2⟩,fun h=>by rw [h.1,h.2]⟩
structure Msg where
 kind:Int
 rid:Int
 code:Int
 has:Bool
 id:Int
 key:ByteArray
 val:ByteArray
 peer:Peer
 peers:List Peer
 pairs:List Pair
 deriving DecidableEq
def eMsg (x:Msg):AV:=.agg [vI x.kind,vW x.rid,vB x.code,vF x.has,vU x.id,vT x.key,vT x.val,vU x.peer.id,vH x.peer.addr,.lit 25 false (List.map zaf x.peers),.lit 78 false (List.map zae x.pairs)]
theorem Msg.ext' {a b:Msg}:a=b ↔ a.kind=b.kind ∧ a.rid=b.rid ∧ a.code=b.code ∧ a.has=b.has ∧ a.id=b.id ∧ a.key=b.key ∧ a.val=b.val ∧ a.peer=b.peer ∧ a.peers=b.peers ∧ a.pairs=b.pairs:=by cases a;cases b;simp
instance:Inj eMsg:=⟨fun a b h=>by
 obtain ⟨_,_,_,_,_,_,_,⟨_,_⟩,_,_⟩:=a;obtain ⟨_,_,_,_,_,_,_,⟨_,_⟩,_,_⟩:=b
 simp only [eMsg,AV.agg.injEq,List.cons.injEq,AV.sc.injEq,Value.int.injEq,Value.bool.injEq,Value.string.injEq,AV.lit.injEq,zds,and_true,true_and,and_assoc] at h
 simp_all⟩
theorem zGu {a b:Msg}:eMsg a=eMsg b ↔ a=b:=⟨Inj.inj a b,fun h=>by rw [h]⟩
def cMsg (x:Msg):List AV:=[vI x.kind,vW x.rid,vB x.code,vF x.has,vU x.id,vT x.key,vT x.val,vU x.peer.id,vH x.peer.addr,.lit 25 false (List.map zaf x.peers),.lit 78 false (List.map zae x.pairs)]
theorem zyR {a b:Msg}:cMsg a=cMsg b ↔ a=b:=⟨fun h=>Inj.inj (e:=eMsg) a b (congrArg AV.agg h),fun h=>by rw [h]⟩
theorem zGj {a b:Msg} {l l':List AV}:capp (cMsg a) l=capp (cMsg b) l' ↔ a=b ∧ l=l':=⟨fun h=>by rw [ztG,ztG] at h;obtain ⟨h1,h2⟩:=List.append_inj h rfl;exact ⟨zyR.1 h1,h2⟩,fun h=>by rw [h.1,h.2]⟩
structure Out where
 to_:Peer
 msg:Msg
 deriving DecidableEq
def eOut (x:Out):AV:=.agg [vU x.to_.id,vH x.to_.addr,vI x.msg.kind,vW x.msg.rid,vB x.msg.code,vF x.msg.has,vU x.msg.id,vT x.msg.key,vT x.msg.val,vU x.msg.peer.id,vH x.msg.peer.addr,.lit 25 false (List.map zaf x.msg.peers),.lit 78 false (List.map zae x.msg.pairs)]
theorem Out.ext' {a b:Out}:a=b ↔ a.to_=b.to_ ∧ a.msg=b.msg:=by cases a;cases b;simp
instance:Inj eOut:=⟨fun a b h=>by
 obtain ⟨⟨_,_⟩,⟨_,_,_,_,_,_,_,⟨_,_⟩,_,_⟩⟩:=a;obtain ⟨⟨_,_⟩,⟨_,_,_,_,_,_,_,⟨_,_⟩,_,_⟩⟩:=b
 simp only [eOut,AV.agg.injEq,List.cons.injEq,AV.sc.injEq,Value.int.injEq,Value.bool.injEq,Value.string.injEq,AV.lit.injEq,zds,and_true,true_and,and_assoc] at h
 simp_all⟩
theorem zGv {a b:Out}:eOut a=eOut b ↔ a=b:=⟨Inj.inj a b,fun h=>by rw [h]⟩
structure Serve_answer where
 n:Node
 from_:Int
 m:Msg
 out:List Out
 deriving DecidableEq
def zbw (x:Serve_answer):AV:=.agg [vU x.n.me.id,vH x.n.me.addr,vI x.n.clock,vF x.n.joined,.lit 81 false (List.map zag x.n.pred),.lit 81 false (List.map zag x.n.list),.lit 84 false (List.map zaU x.n.fingers),.lit 78 false (List.map zae x.n.store),.lit 88 false (List.map zbe x.n.pends),.lit 67 false (List.map eJob x.n.jobs),.lit 60 false (List.map za7 x.n.results),vW x.n.rid,vI x.n.jobID,vI x.n.nextBit,vH x.from_,vI x.m.kind,vW x.m.rid,vB x.m.code,vF x.m.has,vU x.m.id,vT x.m.key,vT x.m.val,vU x.m.peer.id,vH x.m.peer.addr,.lit 25 false (List.map zaf x.m.peers),.lit 78 false (List.map zae x.m.pairs),.lit 56 false (List.map eOut x.out)]
theorem Serve_answer.ext' {a b:Serve_answer}:a=b ↔ a.n=b.n ∧ a.from_=b.from_ ∧ a.m=b.m ∧ a.out=b.out:=by cases a;cases b;simp
instance:Inj zbw:=⟨fun a b h=>by
 obtain ⟨⟨⟨_,_⟩,_,_,_,_,_,_,_,_,_,_,_,_⟩,_,⟨_,_,_,_,_,_,_,⟨_,_⟩,_,_⟩,_⟩:=a;obtain ⟨⟨⟨_,_⟩,_,_,_,_,_,_,_,_,_,_,_,_⟩,_,⟨_,_,_,_,_,_,_,⟨_,_⟩,_,_⟩,_⟩:=b
 simp only [zbw,AV.agg.injEq,List.cons.injEq,AV.sc.injEq,Value.int.injEq,Value.bool.injEq,Value.string.injEq,AV.lit.injEq,zds,and_true,true_and,and_assoc] at h
 simp_all⟩
theorem ztX {a b:Serve_answer}:zbw a=zbw b ↔ a=b:=⟨Inj.inj a b,fun h=>by rw [h]⟩
structure Msg_kind where
 name:ByteArray
 fields:Int
 replies:List Int
 deriving DecidableEq
def zbm (x:Msg_kind):AV:=.agg [vT x.name,vI x.fields,.lit 3 false (List.map vI x.replies)]
theorem Msg_kind.ext' {a b:Msg_kind}:a=b ↔ a.name=b.name ∧ a.fields=b.fields ∧ a.replies=b.replies:=by cases a;cases b;simp
instance:Inj zbm:=⟨fun a b h=>by
 obtain ⟨_,_,_⟩:=a;obtain ⟨_,_,_⟩:=b
 simp only [zbm,AV.agg.injEq,List.cons.injEq,AV.sc.injEq,Value.int.injEq,Value.bool.injEq,Value.string.injEq,AV.lit.injEq,zds,and_true,true_and,and_assoc] at h
 simp only [Msg_kind.mk.injEq,and_assoc];simpa only [Msg_kind.mk.injEq,and_assoc] using h⟩
theorem zxE {a b:Msg_kind}:zbm a=zbm b ↔ a=b:=⟨Inj.inj a b,fun h=>by rw [h]⟩
theorem inj_ {p:Prop} (q:p:=by
 first | rfl | ((try simp only [Prod.mk.injEq,St.mk.injEq,List.cons.injEq,AV.sc.injEq,AV.agg.injEq,AV.tup.injEq,AV.lit.injEq,AV.sl.injEq,AV.sub.injEq,AV.rptr.injEq,AV.lptr.injEq,AV.bptr.injEq,AV.fn.injEq,Ent.box.injEq,Ent.row.injEq,Ent.it.injEq,Value.int.injEq,Value.bool.injEq,Value.string.injEq,zJ2,zds,zLm,and_true,true_and,and_assoc,reduceCtorEq,false_and,and_false,zEX,zCU,zAC,zEW,zEY,zGt,zAD,zEV,zGu,zGv,ztX,zxE,zw8,zEN,zyR,zGj] at h) <;> simp_all)):p:=q
abbrev IF_:Ifc:=⟨Ops.std,(lim F pr).call,(lim F pr).loop,pr,(lim F pr).seg⟩
theorem fin_ {p:Prop} (h:p:=by
 try dsimp only [bd,gam,xlen,xget,xsub,zaN,zbZ,ztU,xsapp,zqX,xsofb,xcut,xsrt,eL,zaf,zag,zaU,zae,zbe,eJob,za7,zbc,eMsg,eOut,zbw,zbm,zau,cMsg,capp] at *
 try simp only [zJr,map_set,zJt,zJs,zC7,List.map_cons,List.map_nil] at *
 try dsimp only [zaf,zag,zaU,zae,zbe,eJob,za7,zbc,eMsg,eOut,zbw,zbm,zau,cMsg,capp] at *
 try simp only [List.map_cons,List.map_nil] at *
 unfold IF_
 generalize (lim F pr).call=call at *
 generalize (lim F pr).loop=loop at *
 generalize (lim F pr).seg=seg at *
 try generalize List.map (eL 78 zae)=m0 at *
 try generalize List.map zag=m1 at *
 try generalize List.map zaU=m2 at *
 try generalize List.map eJob=m3 at *
 try generalize List.map zbm=m4 at *
 try generalize List.map eOut=m5 at *
 try generalize List.map zae=m6 at *
 try generalize List.map zaf=m7 at *
 try generalize List.map zbe=m8 at *
 try generalize List.map za7=m9 at *
 try generalize List.map vI=m10 at *
 try generalize List.map vT=m11 at *
 generalize Ops.std=o at *
 cases o
 try dsimp only at *
 repeat ((try cbv);first | rw [h0] | rw [h1] | rw [h2] | rw [h3] | rw [h4] | rw [h5] | rw [h6] | rw [h7] | rw [h8] | rw [h9] | rw [h10] | rw [h11] | rw [h12] | rw [h13] | rw [h14] | rw [h15] | rw [h16] | rw [h17] | rw [h18] | rw [h19] | rw [h20] | rw [h21] | rw [h22] | rw [h23] | rw [h24] | rw [h25] | rw [h26] | rw [h27] | rw [h28] | rw [h29] | rw [h30] | rw [h31] | rw [h32] | rw [h33] | rw [h34] | rw [h35] | rw [h36] | rw [h37] | rw [h38] | rw [h39] | rw [h40] | rw [h41] | rw [h42] | rw [h43] | rw [h44] | rw [h45] | rw [h46] | rw [h47] | rw [h48] | rw [h49] | rw [h50] | rw [h51] | rw [h52] | rw [h53] | rw [h54] | rw [h55] | rw [h56] | rw [h57] | rw [h58] | rw [h59] | rw [h60] | rw [h61] | rw [h62] | rw [h63] | rw [h64] | rw [h65] | rw [h66] | rw [h67] | rw [h68] | rw [h69] | rw [h70])
 try cbv):p:=h
def znl (n:Node) (from_:Int) (m:Msg):Option (Bool):=ask (R1 vF) ((lim F pr).call 3 [zbc n,vH from_,eMsg m] [])
def zpz (n:Node) (from_:Int) (m:Msg):Option (Bool):=ask (R1 vF) ((lim F pr).call 9 [zbc n,vH from_,eMsg m] [])
def znU (n:Node):Option (Bool):=ask (R1 vF) ((lim F pr).call 11 [zbc n] [])
def zdp:Option (Bool):=ask (R1 vF) ((lim F pr).call 13 [] [])
def znT (m:Msg):Option (Bool):=ask (R1 vF) ((lim F pr).call 12 [eMsg m] [])
abbrev zn4:=(Int × Int × Int × Bool × (List Entry) × (List Entry) × (List Finger) × (List Pair) × (List Pend) × (List Job) × (List Result) × Int × Int × Int)
def zc9:zn4 → AV × Store
 | (a0,a1,a2,a3,a4,a5,a6,a7,a8,a9,a10,a11,a12,a13)=>(.agg [vU a0,vH a1,vI a2,vF a3,.sl 0 0,.sl 1 0,.sl 2 0,.sl 3 0,.sl 4 0,.sl 5 0,.sl 6 0,vW a11,vI a12,vI a13],[.row 81 0 false (List.map zag a4),.row 81 0 false (List.map zag a5),.row 84 0 false (List.map zaU a6),.row 78 0 false (List.map zae a7),.row 88 0 false (List.map zbe a8),.row 67 0 false (List.map eJob a9),.row 60 0 false (List.map za7 a10)])
instance:Inj zc9:=⟨fun x y h=>by
 rcases x with ⟨a0,a1,a2,a3,a4,a5,a6,a7,a8,a9,a10,a11,a12,a13⟩ <;> rcases y with ⟨a0',a1',a2',a3',a4',a5',a6',a7',a8',a9',a10',a11',a12',a13'⟩ <;> simp only [zc9] at h <;> exact inj_⟩
def zhC (n:Node):Option (zn4):=ask zc9 ((lim F pr).call 14 [zbc n] [])
def zkd (n:Node) (from_:Int) (m:Msg):Option ((Node × (List Out))):=ask (R2 zbc (eL 56 eOut)) ((lim F pr).call 15 [zbc n,vH from_,eMsg m] [])
def zqM (n:Node) (from_:Int) (m:Msg):Option ((Node × (List Out))):=ask (R2 zbc (eL 56 eOut)) ((lim F pr).call 16 [zbc n,vH from_,eMsg m] [])
def zqG (a:Node) (b:Node):Option (Bool):=ask (R1 vF) ((lim F pr).call 17 [zbc a,zbc b] [])
def zuQ (a:List Out) (b:List Out):Option (Bool):=ask (R1 vF) ((lim F pr).call 18 [.lit 56 false (List.map eOut a),.lit 56 false (List.map eOut b)] [])
def zs3 (l:List Pair):Option (Bool):=ask (R1 vF) ((lim F pr).call 19 [.lit 78 false (List.map zae l)] [])
def zqV (n:Node) (key:ByteArray) (val:ByteArray):Option ((Node × (List Out) × Int)):=ask (R3 zbc (eL 56 eOut) vI) ((lim F pr).call 20 [zbc n,vT key,vT val] [])
def zuT (n:Node) (key:ByteArray) (val:ByteArray):Option ((Node × (List Out) × Int)):=ask (R3 zbc (eL 56 eOut) vI) ((lim F pr).call 21 [zbc n,vT key,vT val] [])
def zmv (n:Node) (to_:Peer) (l:List Pair) (fresh:Bool):Option ((Node × (List Out))):=ask (R2 zbc (eL 56 eOut)) ((lim F pr).call 22 [zbc n,zaf to_,.lit 78 false (List.map zae l),vF fresh] [])
def zhU (n:Node) (to_:Peer) (l:List Pair) (fresh:Bool):Option ((Node × (List Out))):=ask (R2 zbc (eL 56 eOut)) ((lim F pr).call 23 [zbc n,zaf to_,.lit 78 false (List.map zae l),vF fresh] [])
def zmA (s:ByteArray):Option (Bool):=ask (R1 vF) ((lim F pr).call 24 [vT s] [])
def zk6 (me:Peer) (l:List Entry):Option (Bool):=ask (R1 vF) ((lim F pr).call 35 [zaf me,.lit 81 false (List.map zag l)] [])
def zln (l:List Pair):Option (Bool):=ask (R1 vF) ((lim F pr).call 36 [.lit 78 false (List.map zae l)] [])
def zr9 (m:Msg):Option (Int):=ask (R1 vI) ((lim F pr).call 37 [eMsg m] [])
def zsv (m:Msg):Option (Int):=ask (R1 vI) ((lim F pr).call 38 [eMsg m] [])
def zqp (kind:Int):Option (Bool):=ask (R1 vF) ((lim F pr).call 39 [vI kind] [])
def zla (kind:Int) (reply:Int):Option (Bool):=ask (R1 vF) ((lim F pr).call 40 [vI kind,vI reply] [])
def zuy (k:Int):Option (Bool):=ask (R1 vF) ((lim F pr).call 54 [vI k] [])
def zms (n:Node) (key:Int):Option ((Peer × (List Peer) × Bool)):=ask (R3 zaf (eL 25 zaf) vF) ((lim F pr).call 124 [zbc n,vU key] [])
def zbr (b0_n:Node) (zah:Int) (b0_m:Msg) (γ:Nat → Nat):(List Out) → AV × Store
 | a0=>(.tup [],[.box 93 (capp (zau b0_n) (vH zah :: (capp (cMsg b0_m) ([.sl 1 ((γ 1))])))),.row 56 (γ 1) false (List.map eOut a0)])
instance {b0_n zah b0_m}:InjS (zbr b0_n zah b0_m):=⟨fun γ γ' x y h=>by
 rcases x with a0 <;> rcases y with a0' <;> simp only [zbr] at h <;> exact inj_⟩
def zbu (m:Msg) (b0_n:Node) (zah:Int) (b0_m:Msg) (r1:List Out):Option ((List Out)):=asks (fun γ=>(lim F pr).call 125 [.bptr 0 0,eMsg m] [.box 93 (capp (zau b0_n) (vH zah :: (capp (cMsg b0_m) ([.sl 1 (γ 1)])))),.row 56 (γ 1) false (List.map eOut r1)]) (zbr b0_n zah b0_m)
def zbQ (b0_n:Node) (zah:Int) (b0_m:Msg) (γ:Nat → Nat):(List Out) → AV × Store
 | a0=>(.tup [],[.box 93 (capp (zau b0_n) (vH zah :: (capp (cMsg b0_m) ([.sl 1 ((γ 1))])))),.row 56 (γ 1) false (List.map eOut a0)])
instance {b0_n zah b0_m}:InjS (zbQ b0_n zah b0_m):=⟨fun γ γ' x y h=>by
 rcases x with a0 <;> rcases y with a0' <;> simp only [zbQ] at h <;> exact inj_⟩
def zc4 (e_:Int) (b0_n:Node) (zah:Int) (b0_m:Msg) (r1:List Out):Option ((List Out)):=asks (fun γ=>(lim F pr).call 123 [.bptr 0 0,vI e_] [.box 93 (capp (zau b0_n) (vH zah :: (capp (cMsg b0_m) ([.sl 1 (γ 1)])))),.row 56 (γ 1) false (List.map eOut r1)]) (zbQ b0_n zah b0_m)
def zcS (zah:Int) (b0_m:Msg) (γ:Nat → Nat):(Node × (List Out)) → AV × Store
 | (a0,a1)=>(.tup [],[.box 93 (capp (zau a0) ([vH zah,vI b0_m.kind,vW b0_m.rid,vB b0_m.code,vF b0_m.has,vU b0_m.id,vT b0_m.key,vT b0_m.val,vU b0_m.peer.id,vH b0_m.peer.addr,.lit 25 false (List.map zaf b0_m.peers),.lit 78 false (List.map zae b0_m.pairs),.sl 1 ((γ 1))])),.row 56 (γ 1) false (List.map eOut a1)])
instance {zah b0_m}:InjS (zcS zah b0_m):=⟨fun γ γ' x y h=>by
 rcases x with ⟨a0,a1⟩ <;> rcases y with ⟨a0',a1'⟩ <;> simp only [zcS] at h <;> exact inj_⟩
def ziB (b0_n:Node) (zah:Int) (b0_m:Msg) (r1:List Out):Option ((Node × (List Out))):=asks (fun γ=>(lim F pr).call 55 [.bptr 0 0] [.box 93 (capp (zau b0_n) (vH zah :: (capp (cMsg b0_m) ([.sl 1 (γ 1)])))),.row 56 (γ 1) false (List.map eOut r1)]) (zcS zah b0_m)
def zsi (l:List Entry):Option ((List Peer)):=ask (R1 (eL 25 zaf)) ((lim F pr).call 126 [.lit 81 false (List.map zag l)] [])
def zdm (b0_n:Node) (zah:Int) (b0_m:Msg) (γ:Nat → Nat):(List Out) → AV × Store
 | a0=>(.tup [],[.box 93 (capp (zau b0_n) (vH zah :: (capp (cMsg b0_m) ([.sl 1 ((γ 1))])))),.row 56 (γ 1) false (List.map eOut a0)])
instance {b0_n zah b0_m}:InjS (zdm b0_n zah b0_m):=⟨fun γ γ' x y h=>by
 rcases x with a0 <;> rcases y with a0' <;> simp only [zdm] at h <;> exact inj_⟩
def zjx (b0_n:Node) (zah:Int) (b0_m:Msg) (r1:List Out):Option ((List Out)):=asks (fun γ=>(lim F pr).call 56 [.bptr 0 0] [.box 93 (capp (zau b0_n) (vH zah :: (capp (cMsg b0_m) ([.sl 1 (γ 1)])))),.row 56 (γ 1) false (List.map eOut r1)]) (zdm b0_n zah b0_m)
def zbz (b0_n:Node) (zah:Int) (b0_m:Msg) (γ:Nat → Nat):(List Out) → AV × Store
 | a0=>(.tup [],[.box 93 (capp (zau b0_n) (vH zah :: (capp (cMsg b0_m) ([.sl 1 ((γ 1))])))),.row 56 (γ 1) false (List.map eOut a0)])
instance {b0_n zah b0_m}:InjS (zbz b0_n zah b0_m):=⟨fun γ γ' x y h=>by
 rcases x with a0 <;> rcases y with a0' <;> simp only [zbz] at h <;> exact inj_⟩
def zcG (b0_n:Node) (zah:Int) (b0_m:Msg) (r1:List Out):Option ((List Out)):=asks (fun γ=>(lim F pr).call 61 [.bptr 0 0] [.box 93 (capp (zau b0_n) (vH zah :: (capp (cMsg b0_m) ([.sl 1 (γ 1)])))),.row 56 (γ 1) false (List.map eOut r1)]) (zbz b0_n zah b0_m)
def zsh (me:Peer) (l:List Entry) (p:Peer):Option ((List Entry)):=ask (R1 (eL 81 zag)) ((lim F pr).call 127 [zaf me,.lit 81 false (List.map zag l),zaf p] [])
def zoz (l:List Pair) (from_:Int) (to_:Int):Option ((List Pair)):=ask (R1 (eL 78 zae)) ((lim F pr).call 130 [.lit 78 false (List.map zae l),vU from_,vU to_] [])
def zcT (zah:Int) (b0_m:Msg) (γ:Nat → Nat):(Node × (List Out)) → AV × Store
 | (a0,a1)=>(.tup [],[.box 93 (capp (zau a0) ([vH zah,vI b0_m.kind,vW b0_m.rid,vB b0_m.code,vF b0_m.has,vU b0_m.id,vT b0_m.key,vT b0_m.val,vU b0_m.peer.id,vH b0_m.peer.addr,.lit 25 false (List.map zaf b0_m.peers),.lit 78 false (List.map zae b0_m.pairs),.sl 1 ((γ 1))])),.row 56 (γ 1) false (List.map eOut a1)])
instance {zah b0_m}:InjS (zcT zah b0_m):=⟨fun γ γ' x y h=>by
 rcases x with ⟨a0,a1⟩ <;> rcases y with ⟨a0',a1'⟩ <;> simp only [zcT] at h <;> exact inj_⟩
def ziC (to_:Peer) (l:List Pair) (b0_n:Node) (zah:Int) (b0_m:Msg) (r1:List Out):Option ((Node × (List Out))):=asks (fun γ=>(lim F pr).call 129 [.bptr 0 0,zaf to_,.lit 78 false (List.map zae l)] [.box 93 (capp (zau b0_n) (vH zah :: (capp (cMsg b0_m) ([.sl 1 (γ 1)])))),.row 56 (γ 1) false (List.map eOut r1)]) (zcT zah b0_m)
def zfM (a:Int) (x:Int) (b:Int):Option (Bool):=ask (R1 vF) ((lim F pr).call 128 [vU a,vU x,vU b] [])
def zcV (zah:Int) (b0_m:Msg) (γ:Nat → Nat):(Node × (List Out)) → AV × Store
 | (a0,a1)=>(.tup [],[.box 93 (capp (zau a0) ([vH zah,vI b0_m.kind,vW b0_m.rid,vB b0_m.code,vF b0_m.has,vU b0_m.id,vT b0_m.key,vT b0_m.val,vU b0_m.peer.id,vH b0_m.peer.addr,.lit 25 false (List.map zaf b0_m.peers),.lit 78 false (List.map zae b0_m.pairs),.sl 1 ((γ 1))])),.row 56 (γ 1) false (List.map eOut a1)])
instance {zah b0_m}:InjS (zcV zah b0_m):=⟨fun γ γ' x y h=>by
 rcases x with ⟨a0,a1⟩ <;> rcases y with ⟨a0',a1'⟩ <;> simp only [zcV] at h <;> exact inj_⟩
def ziE (b0_n:Node) (zah:Int) (b0_m:Msg) (r1:List Out):Option ((Node × (List Out))):=asks (fun γ=>(lim F pr).call 57 [.bptr 0 0] [.box 93 (capp (zau b0_n) (vH zah :: (capp (cMsg b0_m) ([.sl 1 (γ 1)])))),.row 56 (γ 1) false (List.map eOut r1)]) (zcV zah b0_m)
def zmj (s:ByteArray):Option (Int):=ask (R1 vU) ((lim F pr).call 88 [vT s] [])
def zqS (n:Node) (key:Int):Option (Bool):=ask (R1 vF) ((lim F pr).call 199 [zbc n,vU key] [])
def zcs (zah:Int) (b0_m:Msg) (γ:Nat → Nat):(Bool × Node × (List Out)) → AV × Store
 | (a0,a1,a2)=>(vF a0,[.box 93 (capp (zau a1) ([vH zah,vI b0_m.kind,vW b0_m.rid,vB b0_m.code,vF b0_m.has,vU b0_m.id,vT b0_m.key,vT b0_m.val,vU b0_m.peer.id,vH b0_m.peer.addr,.lit 25 false (List.map zaf b0_m.peers),.lit 78 false (List.map zae b0_m.pairs),.sl 1 ((γ 1))])),.row 56 (γ 1) false (List.map eOut a2)])
instance {zah b0_m}:InjS (zcs zah b0_m):=⟨fun γ γ' x y h=>by
 rcases x with ⟨a0,a1,a2⟩ <;> rcases y with ⟨a0',a1',a2'⟩ <;> simp only [zcs] at h <;> exact inj_⟩
def zgg (b0_n:Node) (zah:Int) (b0_m:Msg) (r1:List Out):Option ((Bool × Node × (List Out))):=asks (fun γ=>(lim F pr).call 131 [.bptr 0 0] [.box 93 (capp (zau b0_n) (vH zah :: (capp (cMsg b0_m) ([.sl 1 (γ 1)])))),.row 56 (γ 1) false (List.map eOut r1)]) (zcs zah b0_m)
def zdo (zah:Int) (b0_m:Msg) (γ:Nat → Nat):(Node × (List Out)) → AV × Store
 | (a0,a1)=>(.tup [],[.box 93 (capp (zau a0) ([vH zah,vI b0_m.kind,vW b0_m.rid,vB b0_m.code,vF b0_m.has,vU b0_m.id,vT b0_m.key,vT b0_m.val,vU b0_m.peer.id,vH b0_m.peer.addr,.lit 25 false (List.map zaf b0_m.peers),.lit 78 false (List.map zae b0_m.pairs),.sl 1 ((γ 1))])),.row 56 (γ 1) false (List.map eOut a1)])
instance {zah b0_m}:InjS (zdo zah b0_m):=⟨fun γ γ' x y h=>by
 rcases x with ⟨a0,a1⟩ <;> rcases y with ⟨a0',a1'⟩ <;> simp only [zdo] at h <;> exact inj_⟩
def zjz (b0_n:Node) (zah:Int) (b0_m:Msg) (r1:List Out):Option ((Node × (List Out))):=asks (fun γ=>(lim F pr).call 58 [.bptr 0 0] [.box 93 (capp (zau b0_n) (vH zah :: (capp (cMsg b0_m) ([.sl 1 (γ 1)])))),.row 56 (γ 1) false (List.map eOut r1)]) (zdo zah b0_m)
def zsX (l:List Pair) (key:ByteArray):Option ((ByteArray × Bool)):=ask (R2 vT vF) ((lim F pr).call 132 [.lit 78 false (List.map zae l),vT key] [])
def zdn (zah:Int) (b0_m:Msg) (γ:Nat → Nat):(Node × (List Out)) → AV × Store
 | (a0,a1)=>(.tup [],[.box 93 (capp (zau a0) ([vH zah,vI b0_m.kind,vW b0_m.rid,vB b0_m.code,vF b0_m.has,vU b0_m.id,vT b0_m.key,vT b0_m.val,vU b0_m.peer.id,vH b0_m.peer.addr,.lit 25 false (List.map zaf b0_m.peers),.lit 78 false (List.map zae b0_m.pairs),.sl 1 ((γ 1))])),.row 56 (γ 1) false (List.map eOut a1)])
instance {zah b0_m}:InjS (zdn zah b0_m):=⟨fun γ γ' x y h=>by
 rcases x with ⟨a0,a1⟩ <;> rcases y with ⟨a0',a1'⟩ <;> simp only [zdn] at h <;> exact inj_⟩
def zjy (b0_n:Node) (zah:Int) (b0_m:Msg) (r1:List Out):Option ((Node × (List Out))):=asks (fun γ=>(lim F pr).call 59 [.bptr 0 0] [.box 93 (capp (zau b0_n) (vH zah :: (capp (cMsg b0_m) ([.sl 1 (γ 1)])))),.row 56 (γ 1) false (List.map eOut r1)]) (zdn zah b0_m)
def zh3 (l:List Pair) (key:ByteArray) (val:ByteArray):Option (((List Pair) × Int)):=ask (R2 (eL 78 zae) vI) ((lim F pr).call 75 [.lit 78 false (List.map zae l),vT key,vT val] [])
def zow (l:List Pair) (more:List Pair):Option (((List Pair) × Int)):=ask (R2 (eL 78 zae) vI) ((lim F pr).call 133 [.lit 78 false (List.map zae l),.lit 78 false (List.map zae more)] [])
def zcU (zah:Int) (γ:Nat → Nat):(Node × Msg × (List Out)) → AV × Store
 | (a0,a1,a2)=>(.tup [],[.box 93 (capp (zau a0) (vH zah :: (capp (cMsg a1) ([.sl 1 ((γ 1))])))),.row 56 (γ 1) false (List.map eOut a2)])
instance {zah}:InjS (zcU zah):=⟨fun γ γ' x y h=>by
 rcases x with ⟨a0,a1,a2⟩ <;> rcases y with ⟨a0',a1',a2'⟩ <;> simp only [zcU] at h <;> exact inj_⟩
def ziD (b0_n:Node) (zah:Int) (b0_m:Msg) (r1:List Out):Option ((Node × Msg × (List Out))):=asks (fun γ=>(lim F pr).call 60 [.bptr 0 0] [.box 93 (capp (zau b0_n) (vH zah :: (capp (cMsg b0_m) ([.sl 1 (γ 1)])))),.row 56 (γ 1) false (List.map eOut r1)]) (zcU zah)
def zc2 (from_:Int) (rid:Int) (m:Msg):Option ((List Out)):=ask (K1 56 eOut) ((lim F pr).call 62 [vH from_,vW rid,eMsg m] [])
def zqK (n:Node) (key:Int):Option ((Peer × (List Peer) × Bool)):=ask (R3 zaf (eL 25 zaf) vF) ((lim F pr).call 63 [zbc n,vU key] [])
def zwL (l:List Entry):Option ((List Peer)):=ask (K1 25 zaf) ((lim F pr).call 64 [.lit 81 false (List.map zag l)] [])
def zuV (n:Node) (from_:Int) (p:Peer):Option ((Node × (List Out))):=ask (R2 zbc (eL 56 eOut)) ((lim F pr).call 65 [zbc n,vH from_,zaf p] [])
def zuU (l:List Pair) (more:List Pair) (fresh:Bool):Option ((List Pair)):=ask (R1 (eL 78 zae)) ((lim F pr).call 66 [.lit 78 false (List.map zae l),.lit 78 false (List.map zae more),vF fresh] [])
def zoq (n:Node) (key:ByteArray):Option (Int):=ask (R1 vI) ((lim F pr).call 67 [zbc n,vT key] [])
def zwM (l:List Pair) (key:ByteArray):Option ((ByteArray × Bool)):=ask (R2 vT vF) ((lim F pr).call 68 [.lit 78 false (List.map zae l),vT key] [])
def zqA (a:List Entry) (b:List Entry):Option (Bool):=ask (R1 vF) ((lim F pr).call 69 [.lit 81 false (List.map zag a),.lit 81 false (List.map zag b)] [])
def zuP (a:List Finger) (b:List Finger):Option (Bool):=ask (R1 vF) ((lim F pr).call 70 [.lit 84 false (List.map zaU a),.lit 84 false (List.map zaU b)] [])
def znI (a:List Pair) (b:List Pair):Option (Bool):=ask (R1 vF) ((lim F pr).call 71 [.lit 78 false (List.map zae a),.lit 78 false (List.map zae b)] [])
def zsK (a:List Pend) (b:List Pend):Option (Bool):=ask (R1 vF) ((lim F pr).call 72 [.lit 88 false (List.map zbe a),.lit 88 false (List.map zbe b)] [])
def zuR (a:Node) (b:Node):Option (Bool):=ask (R1 vF) ((lim F pr).call 73 [zbc a,zbc b] [])
def zqu (a:Msg) (b:Msg):Option (Bool):=ask (R1 vF) ((lim F pr).call 74 [eMsg a,eMsg b] [])
def zjX (l:List Entry):Option ((List Peer)):=ask (K1 25 zaf) ((lim F pr).call 76 [.lit 81 false (List.map zag l)] [])
def zpj (l:List Pair) (key:ByteArray) (val:ByteArray):Option (((List Pair) × Int)):=ask (R2 (eL 78 zae) vI) ((lim F pr).call 77 [.lit 78 false (List.map zae l),vT key,vT val] [])
def zm6 (l:List Entry):Option ((List Peer)):=ask (K1 25 zaf) ((lim F pr).call 78 [.lit 81 false (List.map zag l)] [])
def zuG (n:Node) (to_:Peer) (m:Msg) (why:Int) (job:Int):Option ((Node × (List Out))):=ask (R2 zbc (eL 56 eOut)) ((lim F pr).call 80 [zbc n,zaf to_,eMsg m,vI why,vI job] [])
def zwN (n:Node) (to_:Peer) (m:Msg) (why:Int) (job:Int):Option ((Node × (List Out))):=ask (R2 zbc (eL 56 eOut)) ((lim F pr).call 82 [zbc n,zaf to_,eMsg m,vI why,vI job] [])
def zs0 (s:ByteArray):Option (Bool):=ask (R1 vF) ((lim F pr).call 83 [vT s] [])
def zsZ (s:ByteArray):Option (Int):=ask (R1 vI) ((lim F pr).call 84 [vT s] [])
def zk5 (l:List Entry) (addr:Int):Option (Int):=ask (R1 vI) ((lim F pr).call 98 [.lit 81 false (List.map zag l),vH addr] [])
def zk4 (me:Peer) (a:Peer) (b:Peer):Option (Bool):=ask (R1 vF) ((lim F pr).call 99 [zaf me,zaf a,zaf b] [])
def zmn (m:Msg):Option (Int):=ask (R1 vI) ((lim F pr).call 100 [eMsg m] [])
def zuB (k:Int):Option (ByteArray):=ask (R1 vT) ((lim F pr).call 101 [vI k] [])
def zuz (m:Msg):Option (Msg):=ask (R1 eMsg) ((lim F pr).call 103 [eMsg m] [])
def zuC (a:Msg) (b:Msg):Option (Bool):=ask (R1 vF) ((lim F pr).call 102 [eMsg a,eMsg b] [])
def zuF (m:Msg) (f:Int):Option (Bool):=ask (R1 vF) ((lim F pr).call 104 [eMsg m,vI f] [])
def zuD (m:Msg):Option (Bool):=ask (R1 vF) ((lim F pr).call 105 [eMsg m] [])
def zsd (m:Msg):Option (Bool):=ask (R1 vF) ((lim F pr).call 106 [eMsg m] [])
def zuM (kind:Int):Option (ByteArray):=ask (R1 vT) ((lim F pr).call 107 [vI kind] [])
def zuL (m:Msg):Option (Msg):=ask (R1 eMsg) ((lim F pr).call 108 [eMsg m] [])
def zmB (s:ByteArray):Option (Bool):=ask (R1 vF) ((lim F pr).call 25 [vT s] [])
def zsb (k:Int):Option (Msg_kind):=ask (R1 zbm) ((lim F pr).call 122 [vI k] [])
def zhW (a:Int) (x:Int) (b:Int):Option (Bool):=ask (R1 vF) ((lim F pr).call 190 [vU a,vU x,vU b] [])
def znc (n:Node) (key:Int):Option (Bool):=ask (R1 vF) ((lim F pr).call 191 [zbc n,vU key] [])
def zpV (me:Peer) (l:List Entry) (f:List Finger) (key:Int) (most:Int):Option ((List Peer)):=ask (R1 (eL 25 zaf)) ((lim F pr).call 192 [zaf me,.lit 81 false (List.map zag l),.lit 84 false (List.map zaU f),vU key,vI most] [])
def zvS (l:List Entry):Option ((List Peer)):=ask (K1 25 zaf) ((lim F pr).call 145 [.lit 81 false (List.map zag l),.fn 193 []] [])
def zqi (l:List Entry) (addr:Int):Option ((List Entry)):=ask (K1 81 zag) ((lim F pr).call 194 [.lit 81 false (List.map zag l),vH addr] [])
def zgu (zaT:Int) (zaA:Int) (zav:Int) (za1:Int):Bool → AV × Store
 | a0=>(vF a0,[.box 25 [vU zaT,vH zaA],.box 25 [vU zav,vH za1]])
instance {zaT zaA zav za1}:Inj (zgu zaT zaA zav za1):=⟨fun x y h=>by
 rcases x with a0 <;> rcases y with a0' <;> simp only [zgu] at h <;> exact inj_⟩
def zn0 (x:Entry) (zaT:Int) (zaA:Int) (zav:Int) (za1:Int):Option (Bool):=ask (zgu zaT zaA zav za1) ((lim F pr).call 195 [zag x,.bptr 0 0,.bptr 1 0] [.box 25 [vU zaT,vH zaA],.box 25 [vU zav,vH za1]])
def zdA (zaT:Int) (zaA:Int) (zav:Int) (za1:Int):Int → AV × Store
 | a0=>(vI a0,[.box 25 [vU zaT,vH zaA],.box 25 [vU zav,vH za1]])
instance {zaT zaA zav za1}:Inj (zdA zaT zaA zav za1):=⟨fun x y h=>by
 rcases x with a0 <;> rcases y with a0' <;> simp only [zdA] at h <;> exact inj_⟩
def zjO (s:List Entry) (zaT:Int) (zaA:Int) (zav:Int) (za1:Int):Option (Int):=ask (zdA zaT zaA zav za1) ((lim F pr).call 164 [.lit 81 false (List.map zag s),.fn 195 [.bptr 0 0,.bptr 1 0]] [.box 25 [vU zaT,vH zaA],.box 25 [vU zav,vH za1]])
def zdv (b0:Int) (b1:Int):Bool → AV × Store
 | a0=>(vF a0,[.box 22 [vU b0],.box 22 [vU b1]])
instance {b0 b1}:Inj (zdv b0 b1):=⟨fun x y h=>by
 rcases x with a0 <;> rcases y with a0' <;> simp only [zdv] at h <;> exact inj_⟩
def zjh (p:Pair) (b0:Int) (b1:Int):Option (Bool):=ask (zdv b0 b1) ((lim F pr).call 198 [zae p,.bptr 0 0,.bptr 1 0] [.box 22 [vU b0],.box 22 [vU b1]])
def zdU (b0:Int) (b1:Int):Int → AV × Store
 | a0=>(vI a0,[.box 22 [vU b0],.box 22 [vU b1]])
instance {b0 b1}:Inj (zdU b0 b1):=⟨fun x y h=>by
 rcases x with a0 <;> rcases y with a0' <;> simp only [zdU] at h <;> exact inj_⟩
def zkn (s:List Pair) (b0:Int) (b1:Int):Option (Int):=ask (zdU b0 b1) ((lim F pr).call 142 [.lit 78 false (List.map zae s),.fn 198 [.bptr 0 0,.bptr 1 0]] [.box 22 [vU b0],.box 22 [vU b1]])
def zdz (b1:Int) (b2:Int) (γ:Nat → Nat):(List Pair) → AV × Store
 | a0=>(.sl 0 ((γ 0)),[.row 78 (γ 0) false (List.map zae a0),.box 22 [vU b1],.box 22 [vU b2]])
instance {b1 b2}:InjS (zdz b1 b2):=⟨fun γ γ' x y h=>by
 rcases x with a0 <;> rcases y with a0' <;> simp only [zdz] at h <;> exact inj_⟩
def zjL (r0:List Pair) (b1:Int) (b2:Int):Option ((List Pair)):=asks (fun γ=>(lim F pr).call 197 [.sl 0 (γ 0),.fn 198 [.bptr 1 0,.bptr 2 0]] [.row 78 (γ 0) false (List.map zae r0),.box 22 [vU b1],.box 22 [vU b2]]) (zdz b1 b2)
def zhV (a:Int) (b:Int):Option (Int):=ask (R1 vU) ((lim F pr).call 166 [vU a,vU b] [])
def zux (s:ByteArray):Option (Int):=ask (R1 vU) ((lim F pr).call 156 [vT s] [])
def zuw (u:Int):Option (Int):=ask (R1 vU) ((lim F pr).call 155 [vU u] [])
def zeX (l:List Pair) (key:ByteArray):Option (Int):=ask (R1 vI) ((lim F pr).call 141 [.lit 78 false (List.map zae l),vT key] [])
def zgY (b0:ByteArray):Bool → AV × Store
 | a0=>(vF a0,[.box 9 [vT b0]])
instance {b0}:Inj (zgY b0):=⟨fun x y h=>by
 rcases x with a0 <;> rcases y with a0' <;> simp only [zgY] at h <;> exact inj_⟩
def zox (p:Pair) (b0:ByteArray):Option (Bool):=ask (zgY b0) ((lim F pr).call 143 [zae p,.bptr 0 0] [.box 9 [vT b0]])
def zdh (b0:ByteArray):Int → AV × Store
 | a0=>(vI a0,[.box 9 [vT b0]])
instance {b0}:Inj (zdh b0):=⟨fun x y h=>by
 rcases x with a0 <;> rcases y with a0' <;> simp only [zdh] at h <;> exact inj_⟩
def zjk (s:List Pair) (b0:ByteArray):Option (Int):=ask (zdh b0) ((lim F pr).call 142 [.lit 78 false (List.map zae s),.fn 143 [.bptr 0 0]] [.box 9 [vT b0]])
def zjt (a:Int) (x:Int) (b:Int):Option (Bool):=ask (R1 vF) ((lim F pr).call 134 [vU a,vU x,vU b] [])
def zuO (me:Peer) (l:List Entry) (f:List Finger) (key:Int) (most:Int):Option ((List Peer)):=ask (R1 (eL 25 zaf)) ((lim F pr).call 135 [zaf me,.lit 81 false (List.map zag l),.lit 84 false (List.map zaU f),vU key,vI most] [])
def zwK (me:Peer) (l:List Entry) (p:Peer):Option ((List Entry)):=ask (R1 (eL 81 zag)) ((lim F pr).call 121 [zaf me,.lit 81 false (List.map zag l),zaf p] [])
def zjJ (l:List Pair) (from_:Int) (to_:Int):Option ((List Pair)):=ask (R1 (eL 78 zae)) ((lim F pr).call 136 [.lit 78 false (List.map zae l),vU from_,vU to_] [])
def zk7 (a:Int) (x:Int) (b:Int):Option (Bool):=ask (R1 vF) ((lim F pr).call 116 [vU a,vU x,vU b] [])
def zsF (l:List Pair) (more:List Pair):Option (((List Pair) × Int)):=ask (R2 (eL 78 zae) vI) ((lim F pr).call 137 [.lit 78 false (List.map zae l),.lit 78 false (List.map zae more)] [])
def znH (s:ByteArray):Option (Int):=ask (R1 vU) ((lim F pr).call 90 [vT s] [])
def zuS (n:Node) (key:Int):Option (Bool):=ask (R1 vF) ((lim F pr).call 138 [zbc n,vU key] [])
def zlD (l:List Pair) (key:ByteArray):Option (Int):=ask (R1 vI) ((lim F pr).call 139 [.lit 78 false (List.map zae l),vT key] [])
def znJ (a:List Peer) (b:List Peer):Option (Bool):=ask (R1 vF) ((lim F pr).call 140 [.lit 25 false (List.map zaf a),.lit 25 false (List.map zaf b)] [])
def zsk (l:List Entry):Option ((List Peer)):=ask (K1 25 zaf) ((lim F pr).call 145 [.lit 81 false (List.map zag l),.fn 146 []] [])
def zqw (a:ByteArray) (b:ByteArray):Option (Bool):=ask (R1 vF) ((lim F pr).call 147 [vT a,vT b] [])
def zuA (m:Msg):Option (Msg):=ask (R1 eMsg) ((lim F pr).call 149 [eMsg m] [])
def zuH (n:Node):Option (Int):=ask (R1 vI) ((lim F pr).call 150 [zbc n] [])
def zwO (n:Node):Option (Int):=ask (R1 vI) ((lim F pr).call 151 [zbc n] [])
def zs1 (s:ByteArray) (at_:Int) (c:Int):Option (Bool):=ask (R1 vF) ((lim F pr).call 152 [vT s,vI at_,vR c] [])
def zey (b0:Int):Bool → AV × Store
 | a0=>(vF a0,[.box 23 [vH b0]])
instance {b0}:Inj (zey b0):=⟨fun x y h=>by
 rcases x with a0 <;> rcases y with a0' <;> simp only [zey] at h <;> exact inj_⟩
def ziX (x:Entry) (b0:Int):Option (Bool):=ask (zey b0) ((lim F pr).call 165 [zag x,.bptr 0 0] [.box 23 [vH b0]])
def zcL (b0:Int):Int → AV × Store
 | a0=>(vI a0,[.box 23 [vH b0]])
instance {b0}:Inj (zcL b0):=⟨fun x y h=>by
 rcases x with a0 <;> rcases y with a0' <;> simp only [zcL] at h <;> exact inj_⟩
def ziy (s:List Entry) (b0:Int):Option (Int):=ask (zcL b0) ((lim F pr).call 164 [.lit 81 false (List.map zag s),.fn 165 [.bptr 0 0]] [.box 23 [vH b0]])
def zpC (s1:List Peer) (s2:List Peer):Option (Bool):=ask (R1 vF) ((lim F pr).call 167 [.lit 25 false (List.map zaf s1),.lit 25 false (List.map zaf s2)] [])
def zpB (s1:List Pair) (s2:List Pair):Option (Bool):=ask (R1 vF) ((lim F pr).call 168 [.lit 78 false (List.map zae s1),.lit 78 false (List.map zae s2)] [])
def zeZ (s:List Pair):Option (Bool):=ask (R1 vF) ((lim F pr).call 170 [.lit 78 false (List.map zae s),.fn 171 []] [])
def zg7 (s:List Pair):Option (Bool):=ask (R1 vF) ((lim F pr).call 170 [.lit 78 false (List.map zae s),.fn 172 []] [])
def zsw:Option ((List ByteArray)):=ask (R1 (eL 9 vT)) ((lim F pr).call 173 [] [])
def zso (s:ByteArray):Option (Bool):=ask (R1 vF) ((lim F pr).call 85 [vT s] [])
def znG (s:ByteArray):Option ((List ByteArray)):=ask (R1 (eL 9 vT)) ((lim F pr).call 86 [vT s] [])
def zsa:Option ((List Msg_kind)):=ask (R1 (eL 146 zbm)) ((lim F pr).call 189 [] [])
def zfi (zaT:Int) (zaA:Int):Bool → AV × Store
 | a0=>(vF a0,[.box 25 [vU zaT,vH zaA]])
instance {zaT zaA}:Inj (zfi zaT zaA):=⟨fun x y h=>by
 rcases x with a0 <;> rcases y with a0' <;> simp only [zfi] at h <;> exact inj_⟩
def zmQ (q:Peer) (zaT:Int) (zaA:Int):Option (Bool):=ask (zfi zaT zaA) ((lim F pr).call 221 [zaf q,.bptr 0 0] [.box 25 [vU zaT,vH zaA]])
def zdV (zaT:Int) (zaA:Int):Int → AV × Store
 | a0=>(vI a0,[.box 25 [vU zaT,vH zaA]])
instance {zaT zaA}:Inj (zdV zaT zaA):=⟨fun x y h=>by
 rcases x with a0 <;> rcases y with a0' <;> simp only [zdV] at h <;> exact inj_⟩
def zko (s:List Peer) (zaT:Int) (zaA:Int):Option (Int):=ask (zdV zaT zaA) ((lim F pr).call 178 [.lit 25 false (List.map zaf s),.fn 221 [.bptr 0 0]] [.box 25 [vU zaT,vH zaA]])
def zn2 (x0:Entry):Option (Bool):=ask (R1 vF) ((lim F pr).call 193 [zag x0] [])
def zdS (b0:Int):Bool → AV × Store
 | a0=>(vF a0,[.box 23 [vH b0]])
instance {b0}:Inj (zdS b0):=⟨fun x y h=>by
 rcases x with a0 <;> rcases y with a0' <;> simp only [zdS] at h <;> exact inj_⟩
def zfm (x:Entry) (b0:Int):Option (Bool):=ask (zdS b0) ((lim F pr).call 228 [zag x,.bptr 0 0] [.box 23 [vH b0]])
def zcM (b0:Int):Int → AV × Store
 | a0=>(vI a0,[.box 23 [vH b0]])
instance {b0}:Inj (zcM b0):=⟨fun x y h=>by
 rcases x with a0 <;> rcases y with a0' <;> simp only [zcM] at h <;> exact inj_⟩
def ziz (s:List Entry) (b0:Int):Option (Int):=ask (zcM b0) ((lim F pr).call 164 [.lit 81 false (List.map zag s),.fn 228 [.bptr 0 0]] [.box 23 [vH b0]])
def zdg (b1:Int) (γ:Nat → Nat):(List Entry) → AV × Store
 | a0=>(.sl 0 ((γ 0)),[.row 81 (γ 0) false (List.map zag a0),.box 23 [vH b1]])
instance {b1}:InjS (zdg b1):=⟨fun γ γ' x y h=>by
 rcases x with a0 <;> rcases y with a0' <;> simp only [zdg] at h <;> exact inj_⟩
def zjj (r0:List Entry) (b1:Int):Option ((List Entry)):=asks (fun γ=>(lim F pr).call 227 [.sl 0 (γ 0),.fn 228 [.bptr 1 0]] [.row 81 (γ 0) false (List.map zag r0),.box 23 [vH b1]]) (zdg b1)
def zeL (b0:ByteArray):Bool → AV × Store
 | a0=>(vF a0,[.box 9 [vT b0]])
instance {b0}:Inj (zeL b0):=⟨fun x y h=>by
 rcases x with a0 <;> rcases y with a0' <;> simp only [zeL] at h <;> exact inj_⟩
def zji (p:Pair) (b0:ByteArray):Option (Bool):=ask (zeL b0) ((lim F pr).call 202 [zae p,.bptr 0 0] [.box 9 [vT b0]])
def zdi (b0:ByteArray):Int → AV × Store
 | a0=>(vI a0,[.box 9 [vT b0]])
instance {b0}:Inj (zdi b0):=⟨fun x y h=>by
 rcases x with a0 <;> rcases y with a0' <;> simp only [zdi] at h <;> exact inj_⟩
def zmG (s:List Pair) (b0:ByteArray):Option (Int):=ask (zdi b0) ((lim F pr).call 142 [.lit 78 false (List.map zae s),.fn 202 [.bptr 0 0]] [.box 9 [vT b0]])
def zsE (l:List Peer) (addr:Int):Option (Bool):=ask (R1 vF) ((lim F pr).call 200 [.lit 25 false (List.map zaf l),vH addr] [])
def zkD (a:Int) (b:Int):Option (Int):=ask (R1 vU) ((lim F pr).call 201 [vU a,vU b] [])
def znK (l:List Entry) (addr:Int):Option (Int):=ask (R1 vI) ((lim F pr).call 186 [.lit 81 false (List.map zag l),vH addr] [])
def zuN (l:List Entry) (addr:Int):Option ((List Entry)):=ask (R1 (eL 81 zag)) ((lim F pr).call 187 [.lit 81 false (List.map zag l),vH addr] [])
def zsB (me:Peer) (a:Peer) (b:Peer):Option (Bool):=ask (R1 vF) ((lim F pr).call 188 [zaf me,zaf a,zaf b] [])
def zwH (s:ByteArray):Option (Int):=ask (R1 vU) ((lim F pr).call 159 [vT s] [])
def zwG (u:Int):Option (Int):=ask (R1 vU) ((lim F pr).call 158 [vU u] [])
def zqj (x:Entry):Option (Bool):=ask (R1 vF) ((lim F pr).call 146 [zag x] [])
def zjl (s:List Pair):Option (Int):=ask (R1 vI) ((lim F pr).call 142 [.lit 78 false (List.map zae s),.fn 171 []] [])
def zjm (s:List Pair):Option (Int):=ask (R1 vI) ((lim F pr).call 142 [.lit 78 false (List.map zae s),.fn 172 []] [])
def zhF (s:ByteArray) (at_:Int):Option (Int):=ask (R1 vI) ((lim F pr).call 153 [vT s,vI at_] [])
def zhI (u:Int) (by_:Int):Option (Int):=ask (R1 vU) ((lim F pr).call 208 [vU u,vI by_] [])
def zqd (p:Pair):Option (Bool):=ask (R1 vF) ((lim F pr).call 171 [zae p] [])
def zqb (p:Pair):Option (Bool):=ask (R1 vF) ((lim F pr).call 172 [zae p] [])
def zhG (c:Int):Option (Bool):=ask (R1 vF) ((lim F pr).call 207 [vB c] [])
end Go.Ab.Tryz
namespace Go.Ab.Tryz
open Go Go.Ab Go.Proofs
set_option maxRecDepth 10000
set_option maxHeartbeats 4000000
open Go.ChangeShapes Go.WideShapes
def Peer.Ok (x:Peer):Prop:=OkU x.id ∧ OkH x.addr
theorem rd25 {H:Type} {enc:TypeId × Value → H} {w:World} {base:Nat} {spare:Nat → Bool} {held:Bool} {fuel:Nat} {cs:List Value} {x:DataW H × List MemPlace} (h:DataW.trod enc Tryz.prog w base spare held fuel 25 cs=some x):∃ a,Rd Tryz.prog w zaf Peer.Ok cs a:=by
 obtain ⟨xs,n,rfl,rfl,hl,hxl,hf⟩:=DataW.trod_struct Tryz.underlying25 h
 have hc:cs.length=2:=hl.trans (by kernel_rfl)
 have hx:xs.length=2:=hxl
 match cs,hc with
 | [c0,c1],_=>
  match xs,hx with
  | [x0,x1],_=>
   have h0:DataW.trod enc Tryz.prog w base spare held n 22 [c0]=some x0:=hf 0 _ rfl
   obtain ⟨a0,d0,o0,k0⟩:=zzZ Tryz.underlying22 h0
   have h1:DataW.trod enc Tryz.prog w base spare held n 23 [c1]=some x1:=hf 1 _ rfl
   obtain ⟨a1,d1,o1,k1⟩:=zLR Tryz.underlying23 h1
   refine ⟨⟨a0,a1⟩,(d0.append d1),fun c hc=>?_,k0,k1⟩
   have hc:c ∈ (vU a0).cells ++ ((vH a1).cells):=hc
   simp only [List.mem_append] at hc
   rcases hc with hc | hc
   ·exact o0 c hc
   ·exact o1 c hc
def Entry.Ok (x:Entry):Prop:=Peer.Ok x.peer ∧ OkI x.misses
theorem rd81 {H:Type} {enc:TypeId × Value → H} {w:World} {base:Nat} {spare:Nat → Bool} {held:Bool} {fuel:Nat} {cs:List Value} {x:DataW H × List MemPlace} (h:DataW.trod enc Tryz.prog w base spare held fuel 81 cs=some x):∃ a,Rd Tryz.prog w zag Entry.Ok cs a:=by
 obtain ⟨xs,n,rfl,rfl,hl,hxl,hf⟩:=DataW.trod_struct Tryz.underlying81 h
 have hc:cs.length=3:=hl.trans (by kernel_rfl)
 have hx:xs.length=2:=hxl
 match cs,hc with
 | [c0,c1,c2],_=>
  match xs,hx with
  | [x0,x1],_=>
   have h0:DataW.trod enc Tryz.prog w base spare held n 25 [c0,c1]=some x0:=hf 0 _ rfl
   obtain ⟨a0,d0,o0,k0⟩:=rd25 h0
   have h1:DataW.trod enc Tryz.prog w base spare held n 3 [c2]=some x1:=hf 1 _ rfl
   obtain ⟨a1,d1,o1,k1⟩:=zcC Tryz.underlying3 h1
   refine ⟨⟨a0,a1⟩,(d0.append d1),fun c hc=>?_,k0,k1⟩
   have hc:c ∈ (zaf a0).cells ++ ((vI a1).cells):=hc
   simp only [List.mem_append] at hc
   rcases hc with hc | hc
   ·exact o0 c hc
   ·exact o1 c hc
def Finger.Ok (x:Finger):Prop:=OkI x.bit ∧ Peer.Ok x.peer
theorem rd84 {H:Type} {enc:TypeId × Value → H} {w:World} {base:Nat} {spare:Nat → Bool} {held:Bool} {fuel:Nat} {cs:List Value} {x:DataW H × List MemPlace} (h:DataW.trod enc Tryz.prog w base spare held fuel 84 cs=some x):∃ a,Rd Tryz.prog w zaU Finger.Ok cs a:=by
 obtain ⟨xs,n,rfl,rfl,hl,hxl,hf⟩:=DataW.trod_struct Tryz.underlying84 h
 have hc:cs.length=3:=hl.trans (by kernel_rfl)
 have hx:xs.length=2:=hxl
 match cs,hc with
 | [c0,c1,c2],_=>
  match xs,hx with
  | [x0,x1],_=>
   have h0:DataW.trod enc Tryz.prog w base spare held n 3 [c0]=some x0:=hf 0 _ rfl
   obtain ⟨a0,d0,o0,k0⟩:=zcC Tryz.underlying3 h0
   have h1:DataW.trod enc Tryz.prog w base spare held n 25 [c1,c2]=some x1:=hf 1 _ rfl
   obtain ⟨a1,d1,o1,k1⟩:=rd25 h1
   refine ⟨⟨a0,a1⟩,(d0.append d1),fun c hc=>?_,k0,k1⟩
   have hc:c ∈ (vI a0).cells ++ ((zaf a1).cells):=hc
   simp only [List.mem_append] at hc
   rcases hc with hc | hc
   ·exact o0 c hc
   ·exact o1 c hc
def Pair.Ok (x:Pair):Prop:=OkT x.key ∧ OkT x.val
theorem rd78 {H:Type} {enc:TypeId × Value → H} {w:World} {base:Nat} {spare:Nat → Bool} {held:Bool} {fuel:Nat} {cs:List Value} {x:DataW H × List MemPlace} (h:DataW.trod enc Tryz.prog w base spare held fuel 78 cs=some x):∃ a,Rd Tryz.prog w zae Pair.Ok cs a:=by
 obtain ⟨xs,n,rfl,rfl,hl,hxl,hf⟩:=DataW.trod_struct Tryz.underlying78 h
 have hc:cs.length=2:=hl.trans (by kernel_rfl)
 have hx:xs.length=2:=hxl
 match cs,hc with
 | [c0,c1],_=>
  match xs,hx with
  | [x0,x1],_=>
   have h0:DataW.trod enc Tryz.prog w base spare held n 9 [c0]=some x0:=hf 0 _ rfl
   obtain ⟨a0,d0,o0,k0⟩:=zf5 Tryz.underlying9 h0
   have h1:DataW.trod enc Tryz.prog w base spare held n 9 [c1]=some x1:=hf 1 _ rfl
   obtain ⟨a1,d1,o1,k1⟩:=zf5 Tryz.underlying9 h1
   refine ⟨⟨a0,a1⟩,(d0.append d1),fun c hc=>?_,k0,k1⟩
   have hc:c ∈ (vT a0).cells ++ ((vT a1).cells):=hc
   simp only [List.mem_append] at hc
   rcases hc with hc | hc
   ·exact o0 c hc
   ·exact o1 c hc
def Pend.Ok (x:Pend):Prop:=OkW x.rid ∧ OkI x.kind ∧ OkI x.why ∧ OkI x.job ∧ Peer.Ok x.to_ ∧ OkI x.due
theorem rd88 {H:Type} {enc:TypeId × Value → H} {w:World} {base:Nat} {spare:Nat → Bool} {held:Bool} {fuel:Nat} {cs:List Value} {x:DataW H × List MemPlace} (h:DataW.trod enc Tryz.prog w base spare held fuel 88 cs=some x):∃ a,Rd Tryz.prog w zbe Pend.Ok cs a:=by
 obtain ⟨xs,n,rfl,rfl,hl,hxl,hf⟩:=DataW.trod_struct Tryz.underlying88 h
 have hc:cs.length=7:=hl.trans (by kernel_rfl)
 have hx:xs.length=6:=hxl
 match cs,hc with
 | [c0,c1,c2,c3,c4,c5,c6],_=>
  match xs,hx with
  | [x0,x1,x2,x3,x4,x5],_=>
   have h0:DataW.trod enc Tryz.prog w base spare held n 32 [c0]=some x0:=hf 0 _ rfl
   obtain ⟨a0,d0,o0,k0⟩:=zzY Tryz.underlying32 h0
   have h1:DataW.trod enc Tryz.prog w base spare held n 3 [c1]=some x1:=hf 1 _ rfl
   obtain ⟨a1,d1,o1,k1⟩:=zcC Tryz.underlying3 h1
   have h2:DataW.trod enc Tryz.prog w base spare held n 3 [c2]=some x2:=hf 2 _ rfl
   obtain ⟨a2,d2,o2,k2⟩:=zcC Tryz.underlying3 h2
   have h3:DataW.trod enc Tryz.prog w base spare held n 3 [c3]=some x3:=hf 3 _ rfl
   obtain ⟨a3,d3,o3,k3⟩:=zcC Tryz.underlying3 h3
   have h4:DataW.trod enc Tryz.prog w base spare held n 25 [c4,c5]=some x4:=hf 4 _ rfl
   obtain ⟨a4,d4,o4,k4⟩:=rd25 h4
   have h5:DataW.trod enc Tryz.prog w base spare held n 3 [c6]=some x5:=hf 5 _ rfl
   obtain ⟨a5,d5,o5,k5⟩:=zcC Tryz.underlying3 h5
   refine ⟨⟨a0,a1,a2,a3,a4,a5⟩,(d0.append (d1.append (d2.append (d3.append (d4.append d5))))),fun c hc=>?_,k0,k1,k2,k3,k4,k5⟩
   have hc:c ∈ (vW a0).cells ++ ((vI a1).cells ++ ((vI a2).cells ++ ((vI a3).cells ++ ((zaf a4).cells ++ ((vI a5).cells))))):=hc
   simp only [List.mem_append] at hc
   rcases hc with hc | hc | hc | hc | hc | hc
   ·exact o0 c hc
   ·exact o1 c hc
   ·exact o2 c hc
   ·exact o3 c hc
   ·exact o4 c hc
   ·exact o5 c hc
def Job.Ok (x:Job):Prop:=OkI x.id ∧ OkI x.kind ∧ OkI x.bit ∧ OkT x.key ∧ OkT x.val ∧ OkU x.target ∧ Peer.Ok x.via ∧ Peer.Ok x.at_ ∧ OkF x.doing ∧ OkI x.hops ∧ OkI x.tries ∧ OkI x.due
theorem rd67 {H:Type} {enc:TypeId × Value → H} {w:World} {base:Nat} {spare:Nat → Bool} {held:Bool} {fuel:Nat} {cs:List Value} {x:DataW H × List MemPlace} (h:DataW.trod enc Tryz.prog w base spare held fuel 67 cs=some x):∃ a,Rd Tryz.prog w eJob Job.Ok cs a:=by
 obtain ⟨xs,n,rfl,rfl,hl,hxl,hf⟩:=DataW.trod_struct Tryz.underlying67 h
 have hc:cs.length=14:=hl.trans (by kernel_rfl)
 have hx:xs.length=12:=hxl
 match cs,hc with
 | [c0,c1,c2,c3,c4,c5,c6,c7,c8,c9,c10,c11,c12,c13],_=>
  match xs,hx with
  | [x0,x1,x2,x3,x4,x5,x6,x7,x8,x9,x10,x11],_=>
   have h0:DataW.trod enc Tryz.prog w base spare held n 3 [c0]=some x0:=hf 0 _ rfl
   obtain ⟨a0,d0,o0,k0⟩:=zcC Tryz.underlying3 h0
   have h1:DataW.trod enc Tryz.prog w base spare held n 3 [c1]=some x1:=hf 1 _ rfl
   obtain ⟨a1,d1,o1,k1⟩:=zcC Tryz.underlying3 h1
   have h2:DataW.trod enc Tryz.prog w base spare held n 3 [c2]=some x2:=hf 2 _ rfl
   obtain ⟨a2,d2,o2,k2⟩:=zcC Tryz.underlying3 h2
   have h3:DataW.trod enc Tryz.prog w base spare held n 9 [c3]=some x3:=hf 3 _ rfl
   obtain ⟨a3,d3,o3,k3⟩:=zf5 Tryz.underlying9 h3
   have h4:DataW.trod enc Tryz.prog w base spare held n 9 [c4]=some x4:=hf 4 _ rfl
   obtain ⟨a4,d4,o4,k4⟩:=zf5 Tryz.underlying9 h4
   have h5:DataW.trod enc Tryz.prog w base spare held n 22 [c5]=some x5:=hf 5 _ rfl
   obtain ⟨a5,d5,o5,k5⟩:=zzZ Tryz.underlying22 h5
   have h6:DataW.trod enc Tryz.prog w base spare held n 25 [c6,c7]=some x6:=hf 6 _ rfl
   obtain ⟨a6,d6,o6,k6⟩:=rd25 h6
   have h7:DataW.trod enc Tryz.prog w base spare held n 25 [c8,c9]=some x7:=hf 7 _ rfl
   obtain ⟨a7,d7,o7,k7⟩:=rd25 h7
   have h8:DataW.trod enc Tryz.prog w base spare held n 4 [c10]=some x8:=hf 8 _ rfl
   obtain ⟨a8,d8,o8,k8⟩:=ztQ Tryz.underlying4 h8
   have h9:DataW.trod enc Tryz.prog w base spare held n 3 [c11]=some x9:=hf 9 _ rfl
   obtain ⟨a9,d9,o9,k9⟩:=zcC Tryz.underlying3 h9
   have h10:DataW.trod enc Tryz.prog w base spare held n 3 [c12]=some x10:=hf 10 _ rfl
   obtain ⟨a10,d10,o10,k10⟩:=zcC Tryz.underlying3 h10
   have h11:DataW.trod enc Tryz.prog w base spare held n 3 [c13]=some x11:=hf 11 _ rfl
   obtain ⟨a11,d11,o11,k11⟩:=zcC Tryz.underlying3 h11
   refine ⟨⟨a0,a1,a2,a3,a4,a5,a6,a7,a8,a9,a10,a11⟩,(d0.append (d1.append (d2.append (d3.append (d4.append (d5.append (d6.append (d7.append (d8.append (d9.append (d10.append d11))))))))))),fun c hc=>?_,k0,k1,k2,k3,k4,k5,k6,k7,k8,k9,k10,k11⟩
   have hc:c ∈ (vI a0).cells ++ ((vI a1).cells ++ ((vI a2).cells ++ ((vT a3).cells ++ ((vT a4).cells ++ ((vU a5).cells ++ ((zaf a6).cells ++ ((zaf a7).cells ++ ((vF a8).cells ++ ((vI a9).cells ++ ((vI a10).cells ++ ((vI a11).cells))))))))))):=hc
   simp only [List.mem_append] at hc
   rcases hc with hc | hc | hc | hc | hc | hc | hc | hc | hc | hc | hc | hc
   ·exact o0 c hc
   ·exact o1 c hc
   ·exact o2 c hc
   ·exact o3 c hc
   ·exact o4 c hc
   ·exact o5 c hc
   ·exact o6 c hc
   ·exact o7 c hc
   ·exact o8 c hc
   ·exact o9 c hc
   ·exact o10 c hc
   ·exact o11 c hc
def Result.Ok (x:Result):Prop:=OkI x.job ∧ OkI x.kind ∧ OkT x.key ∧ OkT x.val ∧ OkF x.has ∧ OkI x.err
theorem rd60 {H:Type} {enc:TypeId × Value → H} {w:World} {base:Nat} {spare:Nat → Bool} {held:Bool} {fuel:Nat} {cs:List Value} {x:DataW H × List MemPlace} (h:DataW.trod enc Tryz.prog w base spare held fuel 60 cs=some x):∃ a,Rd Tryz.prog w za7 Result.Ok cs a:=by
 obtain ⟨xs,n,rfl,rfl,hl,hxl,hf⟩:=DataW.trod_struct Tryz.underlying60 h
 have hc:cs.length=6:=hl.trans (by kernel_rfl)
 have hx:xs.length=6:=hxl
 match cs,hc with
 | [c0,c1,c2,c3,c4,c5],_=>
  match xs,hx with
  | [x0,x1,x2,x3,x4,x5],_=>
   have h0:DataW.trod enc Tryz.prog w base spare held n 3 [c0]=some x0:=hf 0 _ rfl
   obtain ⟨a0,d0,o0,k0⟩:=zcC Tryz.underlying3 h0
   have h1:DataW.trod enc Tryz.prog w base spare held n 3 [c1]=some x1:=hf 1 _ rfl
   obtain ⟨a1,d1,o1,k1⟩:=zcC Tryz.underlying3 h1
   have h2:DataW.trod enc Tryz.prog w base spare held n 9 [c2]=some x2:=hf 2 _ rfl
   obtain ⟨a2,d2,o2,k2⟩:=zf5 Tryz.underlying9 h2
   have h3:DataW.trod enc Tryz.prog w base spare held n 9 [c3]=some x3:=hf 3 _ rfl
   obtain ⟨a3,d3,o3,k3⟩:=zf5 Tryz.underlying9 h3
   have h4:DataW.trod enc Tryz.prog w base spare held n 4 [c4]=some x4:=hf 4 _ rfl
   obtain ⟨a4,d4,o4,k4⟩:=ztQ Tryz.underlying4 h4
   have h5:DataW.trod enc Tryz.prog w base spare held n 49 [c5]=some x5:=hf 5 _ rfl
   obtain ⟨a5,d5,o5,k5⟩:=zcC Tryz.underlying49 h5
   refine ⟨⟨a0,a1,a2,a3,a4,a5⟩,(d0.append (d1.append (d2.append (d3.append (d4.append d5))))),fun c hc=>?_,k0,k1,k2,k3,k4,k5⟩
   have hc:c ∈ (vI a0).cells ++ ((vI a1).cells ++ ((vT a2).cells ++ ((vT a3).cells ++ ((vF a4).cells ++ ((vI a5).cells))))):=hc
   simp only [List.mem_append] at hc
   rcases hc with hc | hc | hc | hc | hc | hc
   ·exact o0 c hc
   ·exact o1 c hc
   ·exact o2 c hc
   ·exact o3 c hc
   ·exact o4 c hc
   ·exact o5 c hc
theorem rd26 {H:Type} {enc:TypeId × Value → H} {w:World} {base:Nat} {spare:Nat → Bool} {held:Bool} {fuel:Nat} {cs:List Value} {x:DataW H × List MemPlace} (h:DataW.trod enc Tryz.prog w base spare held fuel 26 cs=some x):∃ l,Rd Tryz.prog w (eL 81 zag) (OkL Entry.Ok) cs l:=
 zkP (size:=3) Tryz.underlying26 (by kernel_rfl) (by omega) (fun a=>rfl) h (fun n cs' y _ hy=>rd81 hy)
theorem rd27 {H:Type} {enc:TypeId × Value → H} {w:World} {base:Nat} {spare:Nat → Bool} {held:Bool} {fuel:Nat} {cs:List Value} {x:DataW H × List MemPlace} (h:DataW.trod enc Tryz.prog w base spare held fuel 27 cs=some x):∃ l,Rd Tryz.prog w (eL 84 zaU) (OkL Finger.Ok) cs l:=
 zkP (size:=3) Tryz.underlying27 (by kernel_rfl) (by omega) (fun a=>rfl) h (fun n cs' y _ hy=>rd84 hy)
theorem rd28 {H:Type} {enc:TypeId × Value → H} {w:World} {base:Nat} {spare:Nat → Bool} {held:Bool} {fuel:Nat} {cs:List Value} {x:DataW H × List MemPlace} (h:DataW.trod enc Tryz.prog w base spare held fuel 28 cs=some x):∃ l,Rd Tryz.prog w (eL 78 zae) (OkL Pair.Ok) cs l:=
 zkP (size:=2) Tryz.underlying28 (by kernel_rfl) (by omega) (fun a=>rfl) h (fun n cs' y _ hy=>rd78 hy)
theorem rd29 {H:Type} {enc:TypeId × Value → H} {w:World} {base:Nat} {spare:Nat → Bool} {held:Bool} {fuel:Nat} {cs:List Value} {x:DataW H × List MemPlace} (h:DataW.trod enc Tryz.prog w base spare held fuel 29 cs=some x):∃ l,Rd Tryz.prog w (eL 88 zbe) (OkL Pend.Ok) cs l:=
 zkP (size:=7) Tryz.underlying29 (by kernel_rfl) (by omega) (fun a=>rfl) h (fun n cs' y _ hy=>rd88 hy)
theorem rd30 {H:Type} {enc:TypeId × Value → H} {w:World} {base:Nat} {spare:Nat → Bool} {held:Bool} {fuel:Nat} {cs:List Value} {x:DataW H × List MemPlace} (h:DataW.trod enc Tryz.prog w base spare held fuel 30 cs=some x):∃ l,Rd Tryz.prog w (eL 67 eJob) (OkL Job.Ok) cs l:=
 zkP (size:=14) Tryz.underlying30 (by kernel_rfl) (by omega) (fun a=>rfl) h (fun n cs' y _ hy=>rd67 hy)
theorem rd31 {H:Type} {enc:TypeId × Value → H} {w:World} {base:Nat} {spare:Nat → Bool} {held:Bool} {fuel:Nat} {cs:List Value} {x:DataW H × List MemPlace} (h:DataW.trod enc Tryz.prog w base spare held fuel 31 cs=some x):∃ l,Rd Tryz.prog w (eL 60 za7) (OkL Result.Ok) cs l:=
 zkP (size:=6) Tryz.underlying31 (by kernel_rfl) (by omega) (fun a=>rfl) h (fun n cs' y _ hy=>rd60 hy)
def Node.Ok (x:Node):Prop:=Peer.Ok x.me ∧ OkI x.clock ∧ OkF x.joined ∧ (OkL Entry.Ok) x.pred ∧ (OkL Entry.Ok) x.list ∧ (OkL Finger.Ok) x.fingers ∧ (OkL Pair.Ok) x.store ∧ (OkL Pend.Ok) x.pends ∧ (OkL Job.Ok) x.jobs ∧ (OkL Result.Ok) x.results ∧ OkW x.rid ∧ OkI x.jobID ∧ OkI x.nextBit
theorem rd34 {H:Type} {enc:TypeId × Value → H} {w:World} {base:Nat} {spare:Nat → Bool} {held:Bool} {fuel:Nat} {cs:List Value} {x:DataW H × List MemPlace} (h:DataW.trod enc Tryz.prog w base spare held fuel 34 cs=some x):∃ a,Rd Tryz.prog w zbc Node.Ok cs a:=by
 obtain ⟨xs,n,rfl,rfl,hl,hxl,hf⟩:=DataW.trod_struct Tryz.underlying34 h
 have hc:cs.length=14:=hl.trans (by kernel_rfl)
 have hx:xs.length=13:=hxl
 match cs,hc with
 | [c0,c1,c2,c3,c4,c5,c6,c7,c8,c9,c10,c11,c12,c13],_=>
  match xs,hx with
  | [x0,x1,x2,x3,x4,x5,x6,x7,x8,x9,x10,x11,x12],_=>
   have h0:DataW.trod enc Tryz.prog w base spare held n 25 [c0,c1]=some x0:=hf 0 _ rfl
   obtain ⟨a0,d0,o0,k0⟩:=rd25 h0
   have h1:DataW.trod enc Tryz.prog w base spare held n 3 [c2]=some x1:=hf 1 _ rfl
   obtain ⟨a1,d1,o1,k1⟩:=zcC Tryz.underlying3 h1
   have h2:DataW.trod enc Tryz.prog w base spare held n 4 [c3]=some x2:=hf 2 _ rfl
   obtain ⟨a2,d2,o2,k2⟩:=ztQ Tryz.underlying4 h2
   have h3:DataW.trod enc Tryz.prog w base spare held n 26 [c4]=some x3:=hf 3 _ rfl
   obtain ⟨a3,d3,o3,k3⟩:=rd26 h3
   have h4:DataW.trod enc Tryz.prog w base spare held n 26 [c5]=some x4:=hf 4 _ rfl
   obtain ⟨a4,d4,o4,k4⟩:=rd26 h4
   have h5:DataW.trod enc Tryz.prog w base spare held n 27 [c6]=some x5:=hf 5 _ rfl
   obtain ⟨a5,d5,o5,k5⟩:=rd27 h5
   have h6:DataW.trod enc Tryz.prog w base spare held n 28 [c7]=some x6:=hf 6 _ rfl
   obtain ⟨a6,d6,o6,k6⟩:=rd28 h6
   have h7:DataW.trod enc Tryz.prog w base spare held n 29 [c8]=some x7:=hf 7 _ rfl
   obtain ⟨a7,d7,o7,k7⟩:=rd29 h7
   have h8:DataW.trod enc Tryz.prog w base spare held n 30 [c9]=some x8:=hf 8 _ rfl
   obtain ⟨a8,d8,o8,k8⟩:=rd30 h8
   have h9:DataW.trod enc Tryz.prog w base spare held n 31 [c10]=some x9:=hf 9 _ rfl
   obtain ⟨a9,d9,o9,k9⟩:=rd31 h9
   have h10:DataW.trod enc Tryz.prog w base spare held n 32 [c11]=some x10:=hf 10 _ rfl
   obtain ⟨a10,d10,o10,k10⟩:=zzY Tryz.underlying32 h10
   have h11:DataW.trod enc Tryz.prog w base spare held n 3 [c12]=some x11:=hf 11 _ rfl
   obtain ⟨a11,d11,o11,k11⟩:=zcC Tryz.underlying3 h11
   have h12:DataW.trod enc Tryz.prog w base spare held n 3 [c13]=some x12:=hf 12 _ rfl
   obtain ⟨a12,d12,o12,k12⟩:=zcC Tryz.underlying3 h12
   refine ⟨⟨a0,a1,a2,a3,a4,a5,a6,a7,a8,a9,a10,a11,a12⟩,(d0.append (d1.append (d2.append (d3.append (d4.append (d5.append (d6.append (d7.append (d8.append (d9.append (d10.append (d11.append d12)))))))))))),fun c hc=>?_,k0,k1,k2,k3,k4,k5,k6,k7,k8,k9,k10,k11,k12⟩
   have hc:c ∈ (zaf a0).cells ++ ((vI a1).cells ++ ((vF a2).cells ++ (((eL 81 zag) a3).cells ++ (((eL 81 zag) a4).cells ++ (((eL 84 zaU) a5).cells ++ (((eL 78 zae) a6).cells ++ (((eL 88 zbe) a7).cells ++ (((eL 67 eJob) a8).cells ++ (((eL 60 za7) a9).cells ++ ((vW a10).cells ++ ((vI a11).cells ++ ((vI a12).cells)))))))))))):=hc
   simp only [List.mem_append] at hc
   rcases hc with hc | hc | hc | hc | hc | hc | hc | hc | hc | hc | hc | hc | hc
   ·exact o0 c hc
   ·exact o1 c hc
   ·exact o2 c hc
   ·exact o3 c hc
   ·exact o4 c hc
   ·exact o5 c hc
   ·exact o6 c hc
   ·exact o7 c hc
   ·exact o8 c hc
   ·exact o9 c hc
   ·exact o10 c hc
   ·exact o11 c hc
   ·exact o12 c hc
theorem arg34 {H:Type} {enc:TypeId × Value → H} {w:World} {base:Nat} {spare:Nat → Bool} {held:Bool} {r:Reach} {b0:Nat} {v:Value} {d:DataW H} {ps:List MemPlace} (hval:Value.okWide Tryz.prog w r b0 34 v) (h:DataW.Trod enc Tryz.prog w base spare held 34 v d ps):∃ a,DL Tryz.prog w (fun _=>False) [zbc a] [v] ∧ Node.Ok a:=
 zu8 (fun _=>⟨_,rfl⟩) Tryz.underlying34 hval (let ⟨_,hf⟩:=h;rd34 hf)
theorem rd35 {H:Type} {enc:TypeId × Value → H} {w:World} {base:Nat} {spare:Nat → Bool} {held:Bool} {fuel:Nat} {cs:List Value} {x:DataW H × List MemPlace} (h:DataW.trod enc Tryz.prog w base spare held fuel 35 cs=some x):∃ l,Rd Tryz.prog w (eL 25 zaf) (OkL Peer.Ok) cs l:=
 zkP (size:=2) Tryz.underlying35 (by kernel_rfl) (by omega) (fun a=>rfl) h (fun n cs' y _ hy=>rd25 hy)
def Msg.Ok (x:Msg):Prop:=OkI x.kind ∧ OkW x.rid ∧ OkB x.code ∧ OkF x.has ∧ OkU x.id ∧ OkT x.key ∧ OkT x.val ∧ Peer.Ok x.peer ∧ (OkL Peer.Ok) x.peers ∧ (OkL Pair.Ok) x.pairs
theorem rd37 {H:Type} {enc:TypeId × Value → H} {w:World} {base:Nat} {spare:Nat → Bool} {held:Bool} {fuel:Nat} {cs:List Value} {x:DataW H × List MemPlace} (h:DataW.trod enc Tryz.prog w base spare held fuel 37 cs=some x):∃ a,Rd Tryz.prog w eMsg Msg.Ok cs a:=by
 obtain ⟨xs,n,rfl,rfl,hl,hxl,hf⟩:=DataW.trod_struct Tryz.underlying37 h
 have hc:cs.length=11:=hl.trans (by kernel_rfl)
 have hx:xs.length=10:=hxl
 match cs,hc with
 | [c0,c1,c2,c3,c4,c5,c6,c7,c8,c9,c10],_=>
  match xs,hx with
  | [x0,x1,x2,x3,x4,x5,x6,x7,x8,x9],_=>
   have h0:DataW.trod enc Tryz.prog w base spare held n 3 [c0]=some x0:=hf 0 _ rfl
   obtain ⟨a0,d0,o0,k0⟩:=zcC Tryz.underlying3 h0
   have h1:DataW.trod enc Tryz.prog w base spare held n 32 [c1]=some x1:=hf 1 _ rfl
   obtain ⟨a1,d1,o1,k1⟩:=zzY Tryz.underlying32 h1
   have h2:DataW.trod enc Tryz.prog w base spare held n 5 [c2]=some x2:=hf 2 _ rfl
   obtain ⟨a2,d2,o2,k2⟩:=rd_u8 Tryz.underlying5 h2
   have h3:DataW.trod enc Tryz.prog w base spare held n 4 [c3]=some x3:=hf 3 _ rfl
   obtain ⟨a3,d3,o3,k3⟩:=ztQ Tryz.underlying4 h3
   have h4:DataW.trod enc Tryz.prog w base spare held n 22 [c4]=some x4:=hf 4 _ rfl
   obtain ⟨a4,d4,o4,k4⟩:=zzZ Tryz.underlying22 h4
   have h5:DataW.trod enc Tryz.prog w base spare held n 9 [c5]=some x5:=hf 5 _ rfl
   obtain ⟨a5,d5,o5,k5⟩:=zf5 Tryz.underlying9 h5
   have h6:DataW.trod enc Tryz.prog w base spare held n 9 [c6]=some x6:=hf 6 _ rfl
   obtain ⟨a6,d6,o6,k6⟩:=zf5 Tryz.underlying9 h6
   have h7:DataW.trod enc Tryz.prog w base spare held n 25 [c7,c8]=some x7:=hf 7 _ rfl
   obtain ⟨a7,d7,o7,k7⟩:=rd25 h7
   have h8:DataW.trod enc Tryz.prog w base spare held n 35 [c9]=some x8:=hf 8 _ rfl
   obtain ⟨a8,d8,o8,k8⟩:=rd35 h8
   have h9:DataW.trod enc Tryz.prog w base spare held n 28 [c10]=some x9:=hf 9 _ rfl
   obtain ⟨a9,d9,o9,k9⟩:=rd28 h9
   refine ⟨⟨a0,a1,a2,a3,a4,a5,a6,a7,a8,a9⟩,(d0.append (d1.append (d2.append (d3.append (d4.append (d5.append (d6.append (d7.append (d8.append d9))))))))),fun c hc=>?_,k0,k1,k2,k3,k4,k5,k6,k7,k8,k9⟩
   have hc:c ∈ (vI a0).cells ++ ((vW a1).cells ++ ((vB a2).cells ++ ((vF a3).cells ++ ((vU a4).cells ++ ((vT a5).cells ++ ((vT a6).cells ++ ((zaf a7).cells ++ (((eL 25 zaf) a8).cells ++ (((eL 78 zae) a9).cells))))))))):=hc
   simp only [List.mem_append] at hc
   rcases hc with hc | hc | hc | hc | hc | hc | hc | hc | hc | hc
   ·exact o0 c hc
   ·exact o1 c hc
   ·exact o2 c hc
   ·exact o3 c hc
   ·exact o4 c hc
   ·exact o5 c hc
   ·exact o6 c hc
   ·exact o7 c hc
   ·exact o8 c hc
   ·exact o9 c hc
theorem arg37 {H:Type} {enc:TypeId × Value → H} {w:World} {base:Nat} {spare:Nat → Bool} {held:Bool} {r:Reach} {b0:Nat} {v:Value} {d:DataW H} {ps:List MemPlace} (hval:Value.okWide Tryz.prog w r b0 37 v) (h:DataW.Trod enc Tryz.prog w base spare held 37 v d ps):∃ a,DL Tryz.prog w (fun _=>False) [eMsg a] [v] ∧ Msg.Ok a:=
 zu8 (fun _=>⟨_,rfl⟩) Tryz.underlying37 hval (let ⟨_,hf⟩:=h;rd37 hf)
end Go.Ab.Tryz
