/- Our texts for this statement, merged: what its theorem leads to. -/
import Derived.Test.YtjmmobicnfojeaaGreatDoorChecked
import Derived.Test.YtjmmobicnfojeaaGreatDoorQWg4
import Derived.Test.YtjmmobicnfojeaaGreatDoorQWg5
import Derived.Test.YtjmmobicnfojeaaGreatDoorQWg6
import Derived.Test.YtjmmobicnfojeaaGreatDoorQWg7
import Derived.Test.YtjmmobicnfojeaaGreatDoorQWg8
import Derived.Test.YtjmmobicnfojeaaGreatDoorQWg9
set_option linter.unusedVariables false
set_option linter.unusedSimpArgs false
noncomputable section
namespace Go.Ab.Tryz
open Go Go.Ab Go.Proofs
set_option maxHeartbeats 4000000
def F:FuncId → Option Fn
 | 10=>some g10
 | 11=>some g11
 | 12=>some g12
 | 14=>some g14
 | 17=>some g17
 | 18=>some g18
 | 19=>some g19
 | 20=>some g20
 | 21=>some g21
 | 22=>some g22
 | 23=>some g23
 | 24=>some g24
 | 25=>some g25
 | 26=>some g26
 | 27=>some g27
 | 29=>some g29
 | 33=>some g33
 | 34=>some g34
 | 41=>some g41
 | 42=>some g42
 | 43=>some g43
 | 44=>some g44
 | 45=>some g45
 | 46=>some g46
 | 47=>some g47
 | 63=>some g63
 | 68=>some g68
 | 69=>some g69
 | 70=>some g70
 | 71=>some g71
 | 72=>some g72
 | 73=>some g73
 | 74=>some g74
 | 75=>some g75
 | 76=>some g76
 | 77=>some g77
 | 78=>some g78
 | 80=>some g80
 | 82=>some g82
 | 83=>some g83
 | 84=>some g84
 | 85=>some g85
 | 86=>some g86
 | 87=>some g87
 | 88=>some g88
 | 91=>some g91
 | 95=>some g95
 | 96=>some g96
 | 97=>some g97
 | 98=>some g98
 | 99=>some g99
 | 109=>some g109
 | 110=>some g110
 | 111=>some g111
 | 112=>some g112
 | 113=>some g113
 | 114=>some g114
 | 115=>some g115
 | 116=>some g116
 | 117=>some g117
 | 118=>some g118
 | 119=>some g119
 | 120=>some g120
 | 121=>some g121
 | 124=>some g124
 | 127=>some g127
 | 128=>some g128
 | 132=>some g132
 | 134=>some g134
 | 135=>some g135
 | 139=>some g139
 | 140=>some g140
 | 141=>some g141
 | 142=>some g142
 | 143=>some g143
 | 145=>some g145
 | 146=>some g146
 | 147=>some g147
 | 149=>some g149
 | 150=>some g150
 | 151=>some g151
 | 152=>some g152
 | 153=>some g153
 | 154=>some g154
 | 155=>some g155
 | 156=>some g156
 | 160=>some g160
 | 161=>some g161
 | 162=>some g162
 | 163=>some g163
 | 164=>some g164
 | 165=>some g165
 | 166=>some g166
 | 174=>some g174
 | 175=>some g175
 | 176=>some g176
 | 177=>some g177
 | 178=>some g178
 | 179=>some g179
 | 180=>some g180
 | 181=>some g181
 | 182=>some g182
 | 183=>some g183
 | 184=>some g184
 | 185=>some g185
 | 186=>some g186
 | 187=>some g187
 | 188=>some g188
 | 190=>some g190
 | 191=>some g191
 | 192=>some g192
 | 194=>some g194
 | 195=>some g195
 | 200=>some g200
 | 201=>some g201
 | 202=>some g202
 | 207=>some g207
 | 209=>some g209
 | 210=>some g210
 | 211=>some g211
 | 212=>some g212
 | 213=>some g213
 | 214=>some g214
 | 215=>some g215
 | 216=>some g216
 | 217=>some g217
 | 218=>some g218
 | 219=>some g219
 | 220=>some g220
 | 221=>some g221
 | 227=>some g227
 | 228=>some g228
 | 233=>some g233
 | 234=>some g234
 | 235=>some g235
 | _=>none
theorem F_ok:∀ f fn,F f=some fn → ∃ md fz,zaj Tryz.prog md fz f=some fn:=by
 intro f fn h
 unfold F at h
 split at h
 ·cases h;exact ⟨_,_,cmp10⟩
 ·cases h;exact ⟨_,_,cmp11⟩
 ·cases h;exact ⟨_,_,cmp12⟩
 ·cases h;exact ⟨_,_,cmp14⟩
 ·cases h;exact ⟨_,_,cmp17⟩
 ·cases h;exact ⟨_,_,cmp18⟩
 ·cases h;exact ⟨_,_,cmp19⟩
 ·cases h;exact ⟨_,_,cmp20⟩
 ·cases h;exact ⟨_,_,cmp21⟩
 ·cases h;exact ⟨_,_,cmp22⟩
 ·cases h;exact ⟨_,_,cmp23⟩
 ·cases h;exact ⟨_,_,cmp24⟩
 ·cases h;exact ⟨_,_,cmp25⟩
 ·cases h;exact ⟨_,_,cmp26⟩
 ·cases h;exact ⟨_,_,cmp27⟩
 ·cases h;exact ⟨_,_,cmp29⟩
 ·cases h;exact ⟨_,_,cmp33⟩
 ·cases h;exact ⟨_,_,cmp34⟩
 ·cases h;exact ⟨_,_,cmp41⟩
 ·cases h;exact ⟨_,_,cmp42⟩
 ·cases h;exact ⟨_,_,cmp43⟩
 ·cases h;exact ⟨_,_,cmp44⟩
 ·cases h;exact ⟨_,_,cmp45⟩
 ·cases h;exact ⟨_,_,cmp46⟩
 ·cases h;exact ⟨_,_,cmp47⟩
 ·cases h;exact ⟨_,_,cmp63⟩
 ·cases h;exact ⟨_,_,cmp68⟩
 ·cases h;exact ⟨_,_,cmp69⟩
 ·cases h;exact ⟨_,_,cmp70⟩
 ·cases h;exact ⟨_,_,cmp71⟩
 ·cases h;exact ⟨_,_,cmp72⟩
 ·cases h;exact ⟨_,_,cmp73⟩
 ·cases h;exact ⟨_,_,cmp74⟩
 ·cases h;exact ⟨_,_,cmp75⟩
 ·cases h;exact ⟨_,_,cmp76⟩
 ·cases h;exact ⟨_,_,cmp77⟩
 ·cases h;exact ⟨_,_,cmp78⟩
 ·cases h;exact ⟨_,_,cmp80⟩
 ·cases h;exact ⟨_,_,cmp82⟩
 ·cases h;exact ⟨_,_,cmp83⟩
 ·cases h;exact ⟨_,_,cmp84⟩
 ·cases h;exact ⟨_,_,cmp85⟩
 ·cases h;exact ⟨_,_,cmp86⟩
 ·cases h;exact ⟨_,_,cmp87⟩
 ·cases h;exact ⟨_,_,cmp88⟩
 ·cases h;exact ⟨_,_,cmp91⟩
 ·cases h;exact ⟨_,_,cmp95⟩
 ·cases h;exact ⟨_,_,cmp96⟩
 ·cases h;exact ⟨_,_,cmp97⟩
 ·cases h;exact ⟨_,_,cmp98⟩
 ·cases h;exact ⟨_,_,cmp99⟩
 ·cases h;exact ⟨_,_,zKz⟩
 ·cases h;exact ⟨_,_,zKA⟩
 ·cases h;exact ⟨_,_,zKB⟩
 ·cases h;exact ⟨_,_,zKC⟩
 ·cases h;exact ⟨_,_,zKD⟩
 ·cases h;exact ⟨_,_,zKE⟩
 ·cases h;exact ⟨_,_,zKF⟩
 ·cases h;exact ⟨_,_,zKG⟩
 ·cases h;exact ⟨_,_,zKH⟩
 ·cases h;exact ⟨_,_,zKI⟩
 ·cases h;exact ⟨_,_,zKJ⟩
 ·cases h;exact ⟨_,_,zKK⟩
 ·cases h;exact ⟨_,_,zKL⟩
 ·cases h;exact ⟨_,_,zKM⟩
 ·cases h;exact ⟨_,_,zKN⟩
 ·cases h;exact ⟨_,_,zKO⟩
 ·cases h;exact ⟨_,_,zKP⟩
 ·cases h;exact ⟨_,_,zKQ⟩
 ·cases h;exact ⟨_,_,zKR⟩
 ·cases h;exact ⟨_,_,zKS⟩
 ·cases h;exact ⟨_,_,zKT⟩
 ·cases h;exact ⟨_,_,zKU⟩
 ·cases h;exact ⟨_,_,zKV⟩
 ·cases h;exact ⟨_,_,zKW⟩
 ·cases h;exact ⟨_,_,zKX⟩
 ·cases h;exact ⟨_,_,zKY⟩
 ·cases h;exact ⟨_,_,zKZ⟩
 ·cases h;exact ⟨_,_,zK0⟩
 ·cases h;exact ⟨_,_,zK1⟩
 ·cases h;exact ⟨_,_,zK2⟩
 ·cases h;exact ⟨_,_,zK3⟩
 ·cases h;exact ⟨_,_,zK4⟩
 ·cases h;exact ⟨_,_,zK5⟩
 ·cases h;exact ⟨_,_,zK6⟩
 ·cases h;exact ⟨_,_,zK7⟩
 ·cases h;exact ⟨_,_,zK8⟩
 ·cases h;exact ⟨_,_,zK9⟩
 ·cases h;exact ⟨_,_,zLa⟩
 ·cases h;exact ⟨_,_,zLb⟩
 ·cases h;exact ⟨_,_,zLc⟩
 ·cases h;exact ⟨_,_,zLd⟩
 ·cases h;exact ⟨_,_,zLe⟩
 ·cases h;exact ⟨_,_,zLf⟩
 ·cases h;exact ⟨_,_,zLg⟩
 ·cases h;exact ⟨_,_,zLh⟩
 ·cases h;exact ⟨_,_,zLi⟩
 ·cases h;exact ⟨_,_,zLj⟩
 ·cases h;exact ⟨_,_,zLk⟩
 ·cases h;exact ⟨_,_,zLl⟩
 ·cases h;exact ⟨_,_,zLm⟩
 ·cases h;exact ⟨_,_,zLn⟩
 ·cases h;exact ⟨_,_,zLo⟩
 ·cases h;exact ⟨_,_,zLp⟩
 ·cases h;exact ⟨_,_,zLq⟩
 ·cases h;exact ⟨_,_,zLr⟩
 ·cases h;exact ⟨_,_,zLs⟩
 ·cases h;exact ⟨_,_,zLt⟩
 ·cases h;exact ⟨_,_,zLu⟩
 ·cases h;exact ⟨_,_,zLv⟩
 ·cases h;exact ⟨_,_,zLw⟩
 ·cases h;exact ⟨_,_,zLx⟩
 ·cases h;exact ⟨_,_,zLy⟩
 ·cases h;exact ⟨_,_,zLz⟩
 ·cases h;exact ⟨_,_,zLA⟩
 ·cases h;exact ⟨_,_,zLB⟩
 ·cases h;exact ⟨_,_,zLC⟩
 ·cases h;exact ⟨_,_,zLD⟩
 ·cases h;exact ⟨_,_,zLE⟩
 ·cases h;exact ⟨_,_,zLF⟩
 ·cases h;exact ⟨_,_,zLG⟩
 ·cases h;exact ⟨_,_,zLH⟩
 ·cases h;exact ⟨_,_,zLI⟩
 ·cases h;exact ⟨_,_,zLJ⟩
 ·cases h;exact ⟨_,_,zLK⟩
 ·cases h;exact ⟨_,_,zLL⟩
 ·cases h;exact ⟨_,_,zLM⟩
 ·cases h;exact ⟨_,_,zLN⟩
 ·cases h;exact ⟨_,_,zLO⟩
 ·cases h;exact ⟨_,_,zLP⟩
 ·cases h;exact ⟨_,_,zLS⟩
 ·cases h;exact ⟨_,_,zLT⟩
 ·cases h;exact ⟨_,_,zLU⟩
 ·cases h;exact ⟨_,_,zLV⟩
 ·cases h;exact ⟨_,_,zLW⟩
 ·cases h
end Go.Ab.Tryz
namespace Go.Ab.Tryz
open Go Go.Ab Go.Proofs
set_option maxRecDepth 10000
set_option maxHeartbeats 4000000
structure Peer where
 id:Int
 addr:Int
 deriving DecidableEq
def zah (x:Peer):AV:=.agg [vU x.id,vH x.addr]
theorem Peer.ext' {a b:Peer}:a=b ↔ a.id=b.id ∧ a.addr=b.addr:=by cases a;cases b;simp
instance :Inj zah:=⟨fun a b h=>by
 obtain ⟨_,_⟩:=a;obtain ⟨_,_⟩:=b
 simp only [zah,AV.agg.injEq,List.cons.injEq,AV.sc.injEq,Value.int.injEq,Value.bool.injEq,Value.string.injEq,AV.lit.injEq,zdJ,and_true,true_and,and_assoc] at h
 simp only [Peer.mk.injEq,and_assoc];simpa only [Peer.mk.injEq,and_assoc] using h⟩
theorem zFJ {a b:Peer}:zah a=zah b ↔ a=b:=⟨Inj.inj a b,fun h=>by rw [h]⟩
structure Entry where
 peer:Peer
 misses:Int
 deriving DecidableEq
def zai (x:Entry):AV:=.agg [vU x.peer.id,vH x.peer.addr,vI x.misses]
theorem Entry.ext' {a b:Entry}:a=b ↔ a.peer=b.peer ∧ a.misses=b.misses:=by cases a;cases b;simp
instance :Inj zai:=⟨fun a b h=>by
 obtain ⟨⟨_,_⟩,_⟩:=a;obtain ⟨⟨_,_⟩,_⟩:=b
 simp only [zai,AV.agg.injEq,List.cons.injEq,AV.sc.injEq,Value.int.injEq,Value.bool.injEq,Value.string.injEq,AV.lit.injEq,zdJ,and_true,true_and,and_assoc] at h
 simp_all⟩
theorem zDF {a b:Entry}:zai a=zai b ↔ a=b:=⟨Inj.inj a b,fun h=>by rw [h]⟩
structure Finger where
 bit:Int
 peer:Peer
 deriving DecidableEq
def zae (x:Finger):AV:=.agg [vI x.bit,vU x.peer.id,vH x.peer.addr]
theorem Finger.ext' {a b:Finger}:a=b ↔ a.bit=b.bit ∧ a.peer=b.peer:=by cases a;cases b;simp
instance :Inj zae:=⟨fun a b h=>by
 obtain ⟨_,⟨_,_⟩⟩:=a;obtain ⟨_,⟨_,_⟩⟩:=b
 simp only [zae,AV.agg.injEq,List.cons.injEq,AV.sc.injEq,Value.int.injEq,Value.bool.injEq,Value.string.injEq,AV.lit.injEq,zdJ,and_true,true_and,and_assoc] at h
 simp_all⟩
theorem zBr {a b:Finger}:zae a=zae b ↔ a=b:=⟨Inj.inj a b,fun h=>by rw [h]⟩
structure Pair where
 key:ByteArray
 val:ByteArray
 deriving DecidableEq
def zan (x:Pair):AV:=.agg [vT x.key,vT x.val]
theorem Pair.ext' {a b:Pair}:a=b ↔ a.key=b.key ∧ a.val=b.val:=by cases a;cases b;simp
instance :Inj zan:=⟨fun a b h=>by
 obtain ⟨_,_⟩:=a;obtain ⟨_,_⟩:=b
 simp only [zan,AV.agg.injEq,List.cons.injEq,AV.sc.injEq,Value.int.injEq,Value.bool.injEq,Value.string.injEq,AV.lit.injEq,zdJ,and_true,true_and,and_assoc] at h
 simp only [Pair.mk.injEq,and_assoc];simpa only [Pair.mk.injEq,and_assoc] using h⟩
theorem zFI {a b:Pair}:zan a=zan b ↔ a=b:=⟨Inj.inj a b,fun h=>by rw [h]⟩
structure Pend where
 rid:Int
 kind:Int
 why:Int
 job:Int
 to_:Peer
 due:Int
 deriving DecidableEq
def za4 (x:Pend):AV:=.agg [vW x.rid,vI x.kind,vI x.why,vI x.job,vU x.to_.id,vH x.to_.addr,vI x.due]
theorem Pend.ext' {a b:Pend}:a=b ↔ a.rid=b.rid ∧ a.kind=b.kind ∧ a.why=b.why ∧ a.job=b.job ∧ a.to_=b.to_ ∧ a.due=b.due:=by cases a;cases b;simp
instance :Inj za4:=⟨fun a b h=>by
 obtain ⟨_,_,_,_,⟨_,_⟩,_⟩:=a;obtain ⟨_,_,_,_,⟨_,_⟩,_⟩:=b
 simp only [za4,AV.agg.injEq,List.cons.injEq,AV.sc.injEq,Value.int.injEq,Value.bool.injEq,Value.string.injEq,AV.lit.injEq,zdJ,and_true,true_and,and_assoc] at h
 simp_all⟩
theorem zFK {a b:Pend}:za4 a=za4 b ↔ a=b:=⟨Inj.inj a b,fun h=>by rw [h]⟩
structure Job where
 id:Int
 kind:Int
 bit:Int
 key:ByteArray
 val:ByteArray
 target:Int
 via:Peer
 at_:Peer
 doing:Bool
 hops:Int
 tries:Int
 due:Int
 deriving DecidableEq
def eJob (x:Job):AV:=.agg [vI x.id,vI x.kind,vI x.bit,vT x.key,vT x.val,vU x.target,vU x.via.id,vH x.via.addr,vU x.at_.id,vH x.at_.addr,vF x.doing,vI x.hops,vI x.tries,vI x.due]
theorem Job.ext' {a b:Job}:a=b ↔ a.id=b.id ∧ a.kind=b.kind ∧ a.bit=b.bit ∧ a.key=b.key ∧ a.val=b.val ∧ a.target=b.target ∧ a.via=b.via ∧ a.at_=b.at_ ∧ a.doing=b.doing ∧ a.hops=b.hops ∧ a.tries=b.tries ∧ a.due=b.due:=by cases a;cases b;simp
instance :Inj eJob:=⟨fun a b h=>by
 obtain ⟨_,_,_,_,_,_,⟨_,_⟩,⟨_,_⟩,_,_,_,_⟩:=a;obtain ⟨_,_,_,_,_,_,⟨_,_⟩,⟨_,_⟩,_,_,_,_⟩:=b
 simp only [eJob,AV.agg.injEq,List.cons.injEq,AV.sc.injEq,Value.int.injEq,Value.bool.injEq,Value.string.injEq,AV.lit.injEq,zdJ,and_true,true_and,and_assoc] at h
 simp_all⟩
theorem zG9 {a b:Job}:eJob a=eJob b ↔ a=b:=⟨Inj.inj a b,fun h=>by rw [h]⟩
def cJob (x:Job):List AV:=[vI x.id,vI x.kind,vI x.bit,vT x.key,vT x.val,vU x.target,vU x.via.id,vH x.via.addr,vU x.at_.id,vH x.at_.addr,vF x.doing,vI x.hops,vI x.tries,vI x.due]
theorem zzJ {a b:Job}:cJob a=cJob b ↔ a=b:=⟨fun h=>Inj.inj (e:=eJob) a b (congrArg AV.agg h),fun h=>by rw [h]⟩
theorem zGW {a b:Job} {l l':List AV}:capp (cJob a) l=capp (cJob b) l' ↔ a=b ∧ l=l':=⟨fun h=>by rw [zkB,zkB] at h;obtain ⟨h1,h2⟩:=List.append_inj h rfl;exact ⟨zzJ.1 h1,h2⟩,fun h=>by rw [h.1,h.2]⟩
structure Result where
 job:Int
 kind:Int
 key:ByteArray
 val:ByteArray
 has:Bool
 err:Int
 deriving DecidableEq
def zaq (x:Result):AV:=.agg [vI x.job,vI x.kind,vT x.key,vT x.val,vF x.has,vI x.err]
theorem Result.ext' {a b:Result}:a=b ↔ a.job=b.job ∧ a.kind=b.kind ∧ a.key=b.key ∧ a.val=b.val ∧ a.has=b.has ∧ a.err=b.err:=by cases a;cases b;simp
instance :Inj zaq:=⟨fun a b h=>by
 obtain ⟨_,_,_,_,_,_⟩:=a;obtain ⟨_,_,_,_,_,_⟩:=b
 simp only [zaq,AV.agg.injEq,List.cons.injEq,AV.sc.injEq,Value.int.injEq,Value.bool.injEq,Value.string.injEq,AV.lit.injEq,zdJ,and_true,true_and,and_assoc] at h
 simp only [Result.mk.injEq,and_assoc];simpa only [Result.mk.injEq,and_assoc] using h⟩
theorem zBs {a b:Result}:zaq a=zaq b ↔ a=b:=⟨Inj.inj a b,fun h=>by rw [h]⟩
structure Node where
 me:Peer
 clock:Int
 joined:Bool
 pred:List Entry
 list:List Entry
 fingers:List Finger
 store:List Pair
 pends:List Pend
 jobs:List Job
 results:List Result
 rid:Int
 jobID:Int
 nextBit:Int
 deriving DecidableEq
def zaP (x:Node):AV:=.agg [vU x.me.id,vH x.me.addr,vI x.clock,vF x.joined,.lit 81 false (List.map zai x.pred),.lit 81 false (List.map zai x.list),.lit 84 false (List.map zae x.fingers),.lit 78 false (List.map zan x.store),.lit 88 false (List.map za4 x.pends),.lit 67 false (List.map eJob x.jobs),.lit 60 false (List.map zaq x.results),vW x.rid,vI x.jobID,vI x.nextBit]
theorem Node.ext' {a b:Node}:a=b ↔ a.me=b.me ∧ a.clock=b.clock ∧ a.joined=b.joined ∧ a.pred=b.pred ∧ a.list=b.list ∧ a.fingers=b.fingers ∧ a.store=b.store ∧ a.pends=b.pends ∧ a.jobs=b.jobs ∧ a.results=b.results ∧ a.rid=b.rid ∧ a.jobID=b.jobID ∧ a.nextBit=b.nextBit:=by cases a;cases b;simp
instance :Inj zaP:=⟨fun a b h=>by
 obtain ⟨⟨_,_⟩,_,_,_,_,_,_,_,_,_,_,_,_⟩:=a;obtain ⟨⟨_,_⟩,_,_,_,_,_,_,_,_,_,_,_,_⟩:=b
 simp only [zaP,AV.agg.injEq,List.cons.injEq,AV.sc.injEq,Value.int.injEq,Value.bool.injEq,Value.string.injEq,AV.lit.injEq,zdJ,and_true,true_and,and_assoc] at h
 simp_all⟩
theorem zFH {a b:Node}:zaP a=zaP b ↔ a=b:=⟨Inj.inj a b,fun h=>by rw [h]⟩
def zao (x:Node):List AV:=[vU x.me.id,vH x.me.addr,vI x.clock,vF x.joined,.lit 81 false (List.map zai x.pred),.lit 81 false (List.map zai x.list),.lit 84 false (List.map zae x.fingers),.lit 78 false (List.map zan x.store),.lit 88 false (List.map za4 x.pends),.lit 67 false (List.map eJob x.jobs),.lit 60 false (List.map zaq x.results),vW x.rid,vI x.jobID,vI x.nextBit]
theorem zxQ {a b:Node}:zao a=zao b ↔ a=b:=⟨fun h=>Inj.inj (e:=zaP) a b (congrArg AV.agg h),fun h=>by rw [h]⟩
theorem zFz {a b:Node} {l l':List AV}:capp (zao a) l=capp (zao b) l' ↔ a=b ∧ l=l':=⟨fun h=>by rw [zkB,zkB] at h;obtain ⟨h1,h2⟩:=List.append_inj h rfl;exact ⟨zxQ.1 h1,h2⟩,fun h=>by rw [h.1,h.2]⟩
def zaw (x:Node) (u6:AV):List AV:=[vU x.me.id,vH x.me.addr,vI x.clock,vF x.joined,.lit 81 false (List.map zai x.pred),.lit 81 false (List.map zai x.list),u6,.lit 78 false (List.map zan x.store),.lit 88 false (List.map za4 x.pends),.lit 67 false (List.map eJob x.jobs),.lit 60 false (List.map zaq x.results),vW x.rid,vI x.jobID,vI x.nextBit]
theorem zo8 {a b:Node} {u6 v6:AV}:zaw a u6=zaw b v6 ↔ (a.me=b.me ∧ a.clock=b.clock ∧ a.joined=b.joined ∧ a.pred=b.pred ∧ a.list=b.list ∧ a.store=b.store ∧ a.pends=b.pends ∧ a.jobs=b.jobs ∧ a.results=b.results ∧ a.rid=b.rid ∧ a.jobID=b.jobID ∧ a.nextBit=b.nextBit) ∧ u6=v6:=by
 obtain ⟨⟨_,_⟩,_,_,_,_,_,_,_,_,_,_,_,_⟩:=a;obtain ⟨⟨_,_⟩,_,_,_,_,_,_,_,_,_,_,_,_⟩:=b
 simp only [zaw,AV.agg.injEq,List.cons.injEq,AV.sc.injEq,Value.int.injEq,Value.bool.injEq,Value.string.injEq,AV.lit.injEq,zdJ,and_true,true_and,and_assoc]
 constructor <;> (intro h;simp_all)
theorem zBj {a b:Node} {u6 v6:AV} {l l':List AV}:capp (zaw a u6) l=capp (zaw b v6) l' ↔ ((a.me=b.me ∧ a.clock=b.clock ∧ a.joined=b.joined ∧ a.pred=b.pred ∧ a.list=b.list ∧ a.store=b.store ∧ a.pends=b.pends ∧ a.jobs=b.jobs ∧ a.results=b.results ∧ a.rid=b.rid ∧ a.jobID=b.jobID ∧ a.nextBit=b.nextBit) ∧ u6=v6) ∧ l=l':=⟨fun h=>by rw [zkB,zkB] at h;obtain ⟨h1,h2⟩:=List.append_inj h rfl;exact ⟨zo8.1 h1,h2⟩,fun h=>by rw [zo8.2 h.1,h.2]⟩
theorem zDA {a b:Node} {k6 g6:Nat} {l l':List AV}:(capp (zao a) l=capp (zaw b (.sl k6 g6)) l') ↔ False:=by simp [zao,zaw,capp]
theorem zDB {a b:Node} {k6 g6:Nat} {l l':List AV}:(capp (zaw b (.sl k6 g6)) l'=capp (zao a) l) ↔ False:=by simp [zao,zaw,capp]
structure Msg where
 kind:Int
 rid:Int
 code:Int
 has:Bool
 id:Int
 key:ByteArray
 val:ByteArray
 peer:Peer
 peers:List Peer
 pairs:List Pair
 deriving DecidableEq
def eMsg (x:Msg):AV:=.agg [vI x.kind,vW x.rid,vB x.code,vF x.has,vU x.id,vT x.key,vT x.val,vU x.peer.id,vH x.peer.addr,.lit 25 false (List.map zah x.peers),.lit 78 false (List.map zan x.pairs)]
theorem Msg.ext' {a b:Msg}:a=b ↔ a.kind=b.kind ∧ a.rid=b.rid ∧ a.code=b.code ∧ a.has=b.has ∧ a.id=b.id ∧ a.key=b.key ∧ a.val=b.val ∧ a.peer=b.peer ∧ a.peers=b.peers ∧ a.pairs=b.pairs:=by cases a;cases b;simp
instance :Inj eMsg:=⟨fun a b h=>by
 obtain ⟨_,_,_,_,_,_,_,⟨_,_⟩,_,_⟩:=a;obtain ⟨_,_,_,_,_,_,_,⟨_,_⟩,_,_⟩:=b
 simp only [eMsg,AV.agg.injEq,List.cons.injEq,AV.sc.injEq,Value.int.injEq,Value.bool.injEq,Value.string.injEq,AV.lit.injEq,zdJ,and_true,true_and,and_assoc] at h
 simp_all⟩
theorem zHa {a b:Msg}:eMsg a=eMsg b ↔ a=b:=⟨Inj.inj a b,fun h=>by rw [h]⟩
def cMsg (x:Msg):List AV:=[vI x.kind,vW x.rid,vB x.code,vF x.has,vU x.id,vT x.key,vT x.val,vU x.peer.id,vH x.peer.addr,.lit 25 false (List.map zah x.peers),.lit 78 false (List.map zan x.pairs)]
theorem zzK {a b:Msg}:cMsg a=cMsg b ↔ a=b:=⟨fun h=>Inj.inj (e:=eMsg) a b (congrArg AV.agg h),fun h=>by rw [h]⟩
theorem zGX {a b:Msg} {l l':List AV}:capp (cMsg a) l=capp (cMsg b) l' ↔ a=b ∧ l=l':=⟨fun h=>by rw [zkB,zkB] at h;obtain ⟨h1,h2⟩:=List.append_inj h rfl;exact ⟨zzK.1 h1,h2⟩,fun h=>by rw [h.1,h.2]⟩
structure Out where
 to_:Peer
 msg:Msg
 deriving DecidableEq
def eOut (x:Out):AV:=.agg [vU x.to_.id,vH x.to_.addr,vI x.msg.kind,vW x.msg.rid,vB x.msg.code,vF x.msg.has,vU x.msg.id,vT x.msg.key,vT x.msg.val,vU x.msg.peer.id,vH x.msg.peer.addr,.lit 25 false (List.map zah x.msg.peers),.lit 78 false (List.map zan x.msg.pairs)]
theorem Out.ext' {a b:Out}:a=b ↔ a.to_=b.to_ ∧ a.msg=b.msg:=by cases a;cases b;simp
instance :Inj eOut:=⟨fun a b h=>by
 obtain ⟨⟨_,_⟩,⟨_,_,_,_,_,_,_,⟨_,_⟩,_,_⟩⟩:=a;obtain ⟨⟨_,_⟩,⟨_,_,_,_,_,_,_,⟨_,_⟩,_,_⟩⟩:=b
 simp only [eOut,AV.agg.injEq,List.cons.injEq,AV.sc.injEq,Value.int.injEq,Value.bool.injEq,Value.string.injEq,AV.lit.injEq,zdJ,and_true,true_and,and_assoc] at h
 simp_all⟩
theorem zHb {a b:Out}:eOut a=eOut b ↔ a=b:=⟨Inj.inj a b,fun h=>by rw [h]⟩
structure Work_work where
 node:Node
 job:Job
 out:List Out
 deriving DecidableEq
def zcn (x:Work_work):AV:=.agg [vU x.node.me.id,vH x.node.me.addr,vI x.node.clock,vF x.node.joined,.lit 81 false (List.map zai x.node.pred),.lit 81 false (List.map zai x.node.list),.lit 84 false (List.map zae x.node.fingers),.lit 78 false (List.map zan x.node.store),.lit 88 false (List.map za4 x.node.pends),.lit 67 false (List.map eJob x.node.jobs),.lit 60 false (List.map zaq x.node.results),vW x.node.rid,vI x.node.jobID,vI x.node.nextBit,vI x.job.id,vI x.job.kind,vI x.job.bit,vT x.job.key,vT x.job.val,vU x.job.target,vU x.job.via.id,vH x.job.via.addr,vU x.job.at_.id,vH x.job.at_.addr,vF x.job.doing,vI x.job.hops,vI x.job.tries,vI x.job.due,.lit 56 false (List.map eOut x.out)]
theorem Work_work.ext' {a b:Work_work}:a=b ↔ a.node=b.node ∧ a.job=b.job ∧ a.out=b.out:=by cases a;cases b;simp
instance :Inj zcn:=⟨fun a b h=>by
 obtain ⟨⟨⟨_,_⟩,_,_,_,_,_,_,_,_,_,_,_,_⟩,⟨_,_,_,_,_,_,⟨_,_⟩,⟨_,_⟩,_,_,_,_⟩,_⟩:=a;obtain ⟨⟨⟨_,_⟩,_,_,_,_,_,_,_,_,_,_,_,_⟩,⟨_,_,_,_,_,_,⟨_,_⟩,⟨_,_⟩,_,_,_,_⟩,_⟩:=b
 simp only [zcn,AV.agg.injEq,List.cons.injEq,AV.sc.injEq,Value.int.injEq,Value.bool.injEq,Value.string.injEq,AV.lit.injEq,zdJ,and_true,true_and,and_assoc] at h
 simp_all⟩
theorem zw9 {a b:Work_work}:zcn a=zcn b ↔ a=b:=⟨Inj.inj a b,fun h=>by rw [h]⟩
theorem inj_ {p:Prop} (q:p:=by
 first | rfl | ((try simp only [Prod.mk.injEq,St.mk.injEq,List.cons.injEq,AV.sc.injEq,AV.agg.injEq,AV.tup.injEq,AV.lit.injEq,AV.sl.injEq,AV.sub.injEq,AV.rptr.injEq,AV.lptr.injEq,AV.bptr.injEq,AV.fn.injEq,Ent.box.injEq,Ent.row.injEq,Ent.it.injEq,Value.int.injEq,Value.bool.injEq,Value.string.injEq,zKx,zdJ,zLY,and_true,true_and,and_assoc,reduceCtorEq,false_and,and_false,zFJ,zDF,zBr,zFI,zFK,zG9,zBs,zFH,zHa,zHb,zw9,zzJ,zGW,zxQ,zFz,zzK,zGX,zo8,zBj,zDA,zDB] at h) <;> simp_all [Node.ext'])):p:=q
abbrev IF_:Ifc:=⟨Ops.std,(lim F pr).call,(lim F pr).loop,pr,(lim F pr).seg⟩
theorem fin_ {p:Prop} (h:p:=by
 try dsimp only [bd,gam,xlen,xget,xsub,zaK,zcH,zuO,xsapp,zrY,xsofb,xcut,xsrt,eL,zah,zai,zae,zan,za4,eJob,zaq,zaP,eMsg,eOut,zcn,cJob,zao,cMsg,zaw,capp] at *
 try simp only [zJU,zJX,zJW,zJV,zDX,List.map_cons,List.map_nil] at *
 try dsimp only [zah,zai,zae,zan,za4,eJob,zaq,zaP,eMsg,eOut,zcn,cJob,zao,cMsg,zaw,capp] at *
 try simp only [List.map_cons,List.map_nil] at *
 unfold IF_
 generalize (lim F pr).call=call at *
 generalize (lim F pr).loop=loop at *
 generalize (lim F pr).seg=seg at *
 try generalize List.map (eL 78 zan)=m0 at *
 try generalize List.map zai=m1 at *
 try generalize List.map zae=m2 at *
 try generalize List.map eJob=m3 at *
 try generalize List.map eOut=m4 at *
 try generalize List.map zan=m5 at *
 try generalize List.map zah=m6 at *
 try generalize List.map za4=m7 at *
 try generalize List.map zaq=m8 at *
 try generalize List.map vT=m9 at *
 generalize Ops.std=o at *
 cases o
 try dsimp only at *
 repeat ((try cbv);first | rw [h0] | rw [h1] | rw [h2] | rw [h3] | rw [h4] | rw [h5] | rw [h6] | rw [h7] | rw [h8] | rw [h9] | rw [h10] | rw [h11] | rw [h12] | rw [h13] | rw [h14] | rw [h15] | rw [h16] | rw [h17] | rw [h18] | rw [h19] | rw [h20] | rw [h21] | rw [h22] | rw [h23] | rw [h24] | rw [h25] | rw [h26] | rw [h27] | rw [h28] | rw [h29] | rw [h30] | rw [h31] | rw [h32] | rw [h33] | rw [h34] | rw [h35] | rw [h36] | rw [h37] | rw [h38] | rw [h39] | rw [h40] | rw [h41] | rw [h42] | rw [h43] | rw [h44] | rw [h45] | rw [h46] | rw [h47] | rw [h48] | rw [h49] | rw [h50] | rw [h51] | rw [h52] | rw [h53] | rw [h54] | rw [h55] | rw [h56] | rw [h57] | rw [h58] | rw [h59] | rw [h60] | rw [h61] | rw [h62] | rw [h63] | rw [h64] | rw [h65] | rw [h66] | rw [h67] | rw [h68] | rw [h69] | rw [h70])
 try cbv):p:=h
def ztU (n:Node) (id:Int) (m:Msg) (why:Int):Option (Bool):=ask (R1 vF) ((lim F pr).call 10 [zaP n,vI id,eMsg m,vI why] [])
def ztT (n:Node):Option (Bool):=ask (R1 vF) ((lim F pr).call 11 [zaP n] [])
def zo3:Option (Bool):=ask (R1 vF) ((lim F pr).call 26 [] [])
def ztR (m:Msg):Option (Bool):=ask (R1 vF) ((lim F pr).call 12 [eMsg m] [])
abbrev zpk:=(Int × Int × Int × Bool × (List Entry) × (List Entry) × (List Finger) × (List Pair) × (List Pend) × (List Job) × (List Result) × Int × Int × Int)
def zcm:zpk → AV × Store
 | (a0,a1,a2,a3,a4,a5,a6,a7,a8,a9,a10,a11,a12,a13)=>(.agg [vU a0,vH a1,vI a2,vF a3,.sl 0 0,.sl 1 0,.sl 2 0,.sl 3 0,.sl 4 0,.sl 5 0,.sl 6 0,vW a11,vI a12,vI a13],[.row 81 0 false (List.map zai a4),.row 81 0 false (List.map zai a5),.row 84 0 false (List.map zae a6),.row 78 0 false (List.map zan a7),.row 88 0 false (List.map za4 a8),.row 67 0 false (List.map eJob a9),.row 60 0 false (List.map zaq a10)])
instance :Inj zcm:=⟨fun x y h=>by
 rcases x with ⟨a0,a1,a2,a3,a4,a5,a6,a7,a8,a9,a10,a11,a12,a13⟩ <;> rcases y with ⟨a0',a1',a2',a3',a4',a5',a6',a7',a8',a9',a10',a11',a12',a13'⟩ <;> simp only [zcm] at h <;> exact inj_⟩
def zeY (n:Node):Option (zpk):=ask zcm ((lim F pr).call 14 [zaP n] [])
def ztY (n:Node) (id:Int):Option ((Node × (List Out))):=ask (R2 zaP (eL 56 eOut)) ((lim F pr).call 41 [zaP n,vI id] [])
def zvB (n:Node) (id:Int):Option ((Node × (List Out))):=ask (R2 zaP (eL 56 eOut)) ((lim F pr).call 42 [zaP n,vI id] [])
def zrU (n:Node) (id:Int) (m:Msg):Option ((Node × (List Out))):=ask (R2 zaP (eL 56 eOut)) ((lim F pr).call 43 [zaP n,vI id,eMsg m] [])
def ztw (n:Node) (id:Int) (m:Msg):Option ((Node × (List Out))):=ask (R2 zaP (eL 56 eOut)) ((lim F pr).call 44 [zaP n,vI id,eMsg m] [])
def ztX (n:Node) (id:Int) (m:Msg):Option ((Node × (List Out))):=ask (R2 zaP (eL 56 eOut)) ((lim F pr).call 45 [zaP n,vI id,eMsg m] [])
def zvA (n:Node) (id:Int) (m:Msg):Option ((Node × (List Out))):=ask (R2 zaP (eL 56 eOut)) ((lim F pr).call 46 [zaP n,vI id,eMsg m] [])
def zpV (n:Node) (id:Int) (why:Int):Option ((Node × (List Out))):=ask (R2 zaP (eL 56 eOut)) ((lim F pr).call 34 [zaP n,vI id,vI why] [])
def zrJ (n:Node) (id:Int) (why:Int):Option ((Node × (List Out))):=ask (R2 zaP (eL 56 eOut)) ((lim F pr).call 47 [zaP n,vI id,vI why] [])
def zir (a:Node) (b:Node):Option (Bool):=ask (R1 vF) ((lim F pr).call 17 [zaP a,zaP b] [])
def zkk (a:List Out) (b:List Out):Option (Bool):=ask (R1 vF) ((lim F pr).call 18 [.lit 56 false (List.map eOut a),.lit 56 false (List.map eOut b)] [])
def ztS (l:List Pair):Option (Bool):=ask (R1 vF) ((lim F pr).call 19 [.lit 78 false (List.map zan l)] [])
def zmF (l:List Job) (id:Int):Option (Int):=ask (R1 vI) ((lim F pr).call 162 [.lit 67 false (List.map eJob l),vI id] [])
def zgC (γ:Nat → Nat):(Bool × Node × Job × (List Out)) → AV × Store
 | (a0,a1,a2,a3)=>(.tup [.bptr 0 0,vF a0],[.box 135 (capp (zaw a1 (.sl 1 ((γ 1)))) (capp (cJob a2) ([.sl 2 ((γ 2))]))),.row 84 (γ 1) false (List.map zae a1.fingers),.row 56 (γ 2) false (List.map eOut a3)])
instance :InjS zgC:=⟨fun γ γ' x y h=>by
 rcases x with ⟨a0,a1,a2,a3⟩ <;> rcases y with ⟨a0',a1',a2',a3'⟩ <;> simp only [zgC] at h <;> exact inj_⟩
def znw (n:Node) (id:Int):Option ((Bool × Node × Job × (List Out))):=asks (fun γ=>(lim F pr).call 95 [zaP n,vI id] []) zgC
abbrev zq8:=(Int × Int × Int × Bool × (List Entry) × (List Entry) × (List Finger) × (List Pair) × (List Pend) × (List Job) × (List Result) × Int × Int × Int)
def ziS:zq8 → AV × Store
 | (a0,a1,a2,a3,a4,a5,a6,a7,a8,a9,a10,a11,a12,a13)=>(.agg [vU a0,vH a1,vI a2,vF a3,.sl 0 0,.sl 1 0,.sl 2 0,.sl 3 0,.sl 4 0,.sl 5 0,.sl 6 0,vW a11,vI a12,vI a13],[.row 81 0 false (List.map zai a4),.row 81 0 false (List.map zai a5),.row 84 0 false (List.map zae a6),.row 78 0 false (List.map zan a7),.row 88 0 false (List.map za4 a8),.row 67 0 false (List.map eJob a9),.row 60 0 false (List.map zaq a10)])
instance :Inj ziS:=⟨fun x y h=>by
 rcases x with ⟨a0,a1,a2,a3,a4,a5,a6,a7,a8,a9,a10,a11,a12,a13⟩ <;> rcases y with ⟨a0',a1',a2',a3',a4',a5',a6',a7',a8',a9',a10',a11',a12',a13'⟩ <;> simp only [ziS] at h <;> exact inj_⟩
def zq7 (n:Node) (j:Job):Option (zq8):=ask ziS ((lim F pr).call 211 [zaP n,eJob j] [])
def zdQ (b0_job:Job) (r2:List Out) (γ:Nat → Nat):(Node × (List Finger)) → AV × Store
 | (a0,a1)=>(.tup [],[.box 135 (capp (zaw a0 (.sl 3 ((γ 3)))) ([vI b0_job.id,vI b0_job.kind,vI b0_job.bit,vT b0_job.key,vT b0_job.val,vU b0_job.target,vU b0_job.via.id,vH b0_job.via.addr,vU b0_job.at_.id,vH b0_job.at_.addr,vF b0_job.doing,vI b0_job.hops,vI b0_job.tries,vI b0_job.due,.sl 2 ((γ 2))])),.row 84 (γ 1) true (List.map zae a1),.row 56 (γ 2) false (List.map eOut r2),.row 84 (γ 3) false (List.map zae a0.fingers)])
instance {b0_job r2}:InjS (zdQ b0_job r2):=⟨fun γ γ' x y h=>by
 rcases x with ⟨a0,a1⟩ <;> rcases y with ⟨a0',a1'⟩ <;> simp only [zdQ] at h <;> exact inj_⟩
def zeO (b0_node:Node) (b0_job:Job) (r2:List Out):Option ((Node × (List Finger))):=asks (fun γ=>(lim F pr).call 163 [.bptr 0 0] [.box 135 (capp (zaw b0_node (.sl 1 (γ 1))) (capp (cJob b0_job) ([.sl 2 (γ 2)]))),.row 84 (γ 1) false (List.map zae b0_node.fingers),.row 56 (γ 2) false (List.map eOut r2)]) (zdQ b0_job r2)
def zlN (n:Node) (to_:Peer) (m:Msg) (why:Int) (job:Int):Option ((Node × (List Out))):=ask (R2 zaP (eL 56 eOut)) ((lim F pr).call 80 [zaP n,zah to_,eMsg m,vI why,vI job] [])
def zcr (n:Node) (b0_job:Job) (γ:Nat → Nat):((List Finger) × (List Out)) → AV × Store
 | (a0,a1)=>(.tup [],[.box 135 (capp (zao n) (capp (cJob b0_job) ([.sl 2 ((γ 2))]))),.row 84 (γ 1) true (List.map zae a0),.row 56 (γ 2) false (List.map eOut a1)])
instance {n b0_job}:InjS (zcr n b0_job):=⟨fun γ γ' x y h=>by
 rcases x with ⟨a0,a1⟩ <;> rcases y with ⟨a0',a1'⟩ <;> simp only [zcr] at h <;> exact inj_⟩
def zgx (n:Node) (out:List Out) (b0_node:Node) (b0_job:Job) (r2:List Out):Option (((List Finger) × (List Out))):=asks (fun γ=>(lim F pr).call 184 [.bptr 0 0,zaP n,.lit 56 false (List.map eOut out)] [.box 135 (capp (zaw b0_node (.sl 1 (γ 1))) (capp (cJob b0_job) ([.sl 2 (γ 2)]))),.row 84 (γ 1) true (List.map zae b0_node.fingers),.row 56 (γ 2) false (List.map eOut r2)]) (zcr n b0_job)
abbrev zlq:=(Node × Job × (List Finger) × (List Out))
def zdN (γ:Nat → Nat):zlq → AV × Store
 | (a0,a1,a2,a3)=>(.tup [],[.box 135 (capp (zao a0) (capp (cJob a1) ([.sl 2 ((γ 2))]))),.row 84 (γ 1) true (List.map zae a2),.row 56 (γ 2) false (List.map eOut a3)])
instance :InjS zdN:=⟨fun γ γ' x y h=>by
 rcases x with ⟨a0,a1,a2,a3⟩ <;> rcases y with ⟨a0',a1',a2',a3'⟩ <;> simp only [zdN] at h <;> exact inj_⟩
def zeN (to_:Peer) (m:Msg) (why:Int) (b0_node:Node) (b0_job:Job) (r2:List Out):Option (zlq):=asks (fun γ=>(lim F pr).call 212 [.bptr 0 0,zah to_,eMsg m,vI why] [.box 135 (capp (zaw b0_node (.sl 1 (γ 1))) (capp (cJob b0_job) ([.sl 2 (γ 2)]))),.row 84 (γ 1) false (List.map zae b0_node.fingers),.row 56 (γ 2) false (List.map eOut r2)]) zdN
abbrev zkt:=(Node × Job × (List Finger) × (List Out))
def zc9 (γ:Nat → Nat):zkt → AV × Store
 | (a0,a1,a2,a3)=>(.tup [],[.box 135 (capp (zao a0) (capp (cJob a1) ([.sl 2 ((γ 2))]))),.row 84 (γ 1) true (List.map zae a2),.row 56 (γ 2) false (List.map eOut a3)])
instance :InjS zc9:=⟨fun γ γ' x y h=>by
 rcases x with ⟨a0,a1,a2,a3⟩ <;> rcases y with ⟨a0',a1',a2',a3'⟩ <;> simp only [zc9] at h <;> exact inj_⟩
def zcF (to_:Peer) (b0_node:Node) (b0_job:Job) (r2:List Out):Option (zkt):=asks (fun γ=>(lim F pr).call 174 [.bptr 0 0,zah to_] [.box 135 (capp (zaw b0_node (.sl 1 (γ 1))) (capp (cJob b0_job) ([.sl 2 (γ 2)]))),.row 84 (γ 1) false (List.map zae b0_node.fingers),.row 56 (γ 2) false (List.map eOut r2)]) zc9
def zrO (n:Node) (key:Int):Option ((Peer × (List Peer) × Bool)):=ask (R3 zah (eL 25 zah) vF) ((lim F pr).call 124 [zaP n,vU key] [])
def zcW (b0_job:Job) (r2:List Out) (γ:Nat → Nat):(Node × (List Finger)) → AV × Store
 | (a0,a1)=>(.tup [],[.box 135 (capp (zaw a0 (.sl 3 ((γ 3)))) ([vI b0_job.id,vI b0_job.kind,vI b0_job.bit,vT b0_job.key,vT b0_job.val,vU b0_job.target,vU b0_job.via.id,vH b0_job.via.addr,vU b0_job.at_.id,vH b0_job.at_.addr,vF b0_job.doing,vI b0_job.hops,vI b0_job.tries,vI b0_job.due,.sl 2 ((γ 2))])),.row 84 (γ 1) true (List.map zae a1),.row 56 (γ 2) false (List.map eOut r2),.row 84 (γ 3) false (List.map zae a0.fingers)])
instance {b0_job r2}:InjS (zcW b0_job r2):=⟨fun γ γ' x y h=>by
 rcases x with ⟨a0,a1⟩ <;> rcases y with ⟨a0',a1'⟩ <;> simp only [zcW] at h <;> exact inj_⟩
def zdP (b0_node:Node) (b0_job:Job) (r2:List Out):Option ((Node × (List Finger))):=asks (fun γ=>(lim F pr).call 163 [.bptr 0 0] [.box 135 (capp (zaw b0_node (.sl 1 (γ 1))) (capp (cJob b0_job) ([.sl 2 (γ 2)]))),.row 84 (γ 1) true (List.map zae b0_node.fingers),.row 56 (γ 2) false (List.map eOut r2)]) (zcW b0_job r2)
abbrev zln:=(Node × Job × (List Finger) × (List Out))
def zdM (γ:Nat → Nat):zln → AV × Store
 | (a0,a1,a2,a3)=>(.tup [],[.box 135 (capp (zao a0) (capp (cJob a1) ([.sl 2 ((γ 2))]))),.row 84 (γ 1) true (List.map zae a2),.row 56 (γ 2) false (List.map eOut a3)])
instance :InjS zdM:=⟨fun γ γ' x y h=>by
 rcases x with ⟨a0,a1,a2,a3⟩ <;> rcases y with ⟨a0',a1',a2',a3'⟩ <;> simp only [zdM] at h <;> exact inj_⟩
def zkc (to_:Peer) (b0_node:Node) (b0_job:Job) (r2:List Out):Option (zln):=asks (fun γ=>(lim F pr).call 175 [.bptr 0 0,zah to_] [.box 135 (capp (zaw b0_node (.sl 1 (γ 1))) (capp (cJob b0_job) ([.sl 2 (γ 2)]))),.row 84 (γ 1) false (List.map zae b0_node.fingers),.row 56 (γ 2) false (List.map eOut r2)]) zdM
def zb4 (b1_node:Node) (b1_job:Job) (r3:List Out) (γ:Nat → Nat):Bool → AV × Store
 | a0=>(vF a0,[.box 120 [.bptr 1 0],.box 135 (capp (zaw b1_node (.sl 2 ((γ 2)))) (capp (cJob b1_job) ([.sl 3 ((γ 3))]))),.row 84 (γ 2) false (List.map zae b1_node.fingers),.row 56 (γ 3) false (List.map eOut r3)])
instance {b1_node b1_job r3}:InjS (zb4 b1_node b1_job r3):=⟨fun γ γ' x y h=>by
 rcases x with a0 <;> rcases y with a0' <;> simp only [zb4] at h <;> exact inj_⟩
def zdy (f:Finger) (b1_node:Node) (b1_job:Job) (r3:List Out):Option (Bool):=askg (fun γ=>(lim F pr).call 214 [zae f,.bptr 0 0] [.box 120 [.bptr 1 0],.box 135 (capp (zaw b1_node (.sl 2 (γ 2))) (capp (cJob b1_job) ([.sl 3 (γ 3)]))),.row 84 (γ 2) false (List.map zae b1_node.fingers),.row 56 (γ 3) false (List.map eOut r3)]) (zb4 b1_node b1_job r3)
def zdl (b2_node:Node) (zaZ:Job) (r3:List Out) (γ:Nat → Nat):Int → AV × Store
 | a0=>(vI a0,[.row 84 (γ 0) false (List.map zae b2_node.fingers),.box 120 [.bptr 2 0],.box 135 (capp (zaw b2_node (.sl 0 ((γ 0)))) (capp (cJob zaZ) ([.sl 3 ((γ 3))]))),.row 56 (γ 3) false (List.map eOut r3)])
instance {b2_node zaZ r3}:InjS (zdl b2_node zaZ r3):=⟨fun γ γ' x y h=>by
 rcases x with a0 <;> rcases y with a0' <;> simp only [zdl] at h <;> exact inj_⟩
def zke (b2_node:Node) (zaZ:Job) (r3:List Out):Option (Int):=askg (fun γ=>(lim F pr).call 233 [.sl 0 (γ 0),.fn 214 [.bptr 1 0]] [.row 84 (γ 0) false (List.map zae b2_node.fingers),.box 120 [.bptr 2 0],.box 135 (capp (zaw b2_node (.sl 0 (γ 0))) (capp (cJob zaZ) ([.sl 3 (γ 3)]))),.row 56 (γ 3) false (List.map eOut r3)]) (zdl b2_node zaZ r3)
abbrev zhI:=((List Finger) × Int × Int × Int × Bool × (List Entry) × (List Entry) × (List Pair) × (List Pend) × (List Job) × (List Result) × Int × Int × Int)
def zcZ (zaZ:Job) (r3:List Out) (γ:Nat → Nat):zhI → AV × Store
 | (a0,a1,a2,a3,a4,a5,a6,a7,a8,a9,a10,a11,a12,a13)=>(.sl 0 ((γ 0)),[.row 84 (γ 0) false (List.map zae a0),.box 120 [.bptr 2 0],.box 135 (vU a1 :: vH a2 :: vI a3 :: vF a4 :: .lit 81 false (List.map zai a5) :: .lit 81 false (List.map zai a6) :: .sl 0 ((γ 40)) :: .lit 78 false (List.map zan a7) :: .lit 88 false (List.map za4 a8) :: .lit 67 false (List.map eJob a9) :: .lit 60 false (List.map zaq a10) :: vW a11 :: vI a12 :: vI a13 :: (capp (cJob zaZ) ([.sl 3 ((γ 3))]))),.row 56 (γ 3) false (List.map eOut r3)])
instance {zaZ r3}:InjS (zcZ zaZ r3):=⟨fun γ γ' x y h=>by
 rcases x with ⟨a0,a1,a2,a3,a4,a5,a6,a7,a8,a9,a10,a11,a12,a13⟩ <;> rcases y with ⟨a0',a1',a2',a3',a4',a5',a6',a7',a8',a9',a10',a11',a12',a13'⟩ <;> simp only [zcZ] at h <;> exact inj_⟩
def zjk (b2_node:Node) (zaZ:Job) (r3:List Out):Option (zhI):=asks (fun γ=>(lim F pr).call 213 [.sl 0 (γ 0),.fn 214 [.bptr 1 0]] [.row 84 (γ 0) false (List.map zae b2_node.fingers),.box 120 [.bptr 2 0],.box 135 (capp (zaw b2_node (.sl 0 (γ 0))) (capp (cJob zaZ) ([.sl 3 (γ 3)]))),.row 56 (γ 3) false (List.map eOut r3)]) (zcZ zaZ r3)
def zjy (n:Node) (id:Int) (has:Bool) (val:ByteArray) (e_:Int):Option (Node):=ask (R1 zaP) ((lim F pr).call 185 [zaP n,vI id,vF has,vT val,vI e_] [])
def zbr (val:ByteArray) (b0_job:Job) (r2:List Out) (γ:Nat → Nat):(Node × (List Finger)) → AV × Store
 | (a0,a1)=>(.tup [],[.box 135 (capp (zao a0) ([vI b0_job.id,vI b0_job.kind,vI b0_job.bit,vT b0_job.key,vT b0_job.val,vU b0_job.target,vU b0_job.via.id,vH b0_job.via.addr,vU b0_job.at_.id,vH b0_job.at_.addr,vF b0_job.doing,vI b0_job.hops,vI b0_job.tries,vI b0_job.due,.sl 2 ((γ 2))])),.row 84 (γ 1) true (List.map zae a1),.row 56 (γ 2) false (List.map eOut r2)])
instance {val b0_job r2}:InjS (zbr val b0_job r2):=⟨fun γ γ' x y h=>by
 rcases x with ⟨a0,a1⟩ <;> rcases y with ⟨a0',a1'⟩ <;> simp only [zbr] at h <;> exact inj_⟩
def zbk (has:Bool) (val:ByteArray) (e_:Int) (b0_node:Node) (b0_job:Job) (r2:List Out):Option ((Node × (List Finger))):=asks (fun γ=>(lim F pr).call 120 [.bptr 0 0,vF has,vT val,vI e_] [.box 135 (capp (zaw b0_node (.sl 1 (γ 1))) (capp (cJob b0_job) ([.sl 2 (γ 2)]))),.row 84 (γ 1) false (List.map zae b0_node.fingers),.row 56 (γ 2) false (List.map eOut r2)]) (zbr val b0_job r2)
def zsQ (l:List Finger) (bit:Int) (p:Peer):Option ((List Finger)):=ask (R1 (eL 84 zae)) ((lim F pr).call 215 [.lit 84 false (List.map zae l),vI bit,zah p] [])
def zb5 (val:ByteArray) (b0_job:Job) (r1:List Out) (γ:Nat → Nat):Node → AV × Store
 | a0=>(.tup [],[.box 135 (capp (zao a0) ([vI b0_job.id,vI b0_job.kind,vI b0_job.bit,vT b0_job.key,vT b0_job.val,vU b0_job.target,vU b0_job.via.id,vH b0_job.via.addr,vU b0_job.at_.id,vH b0_job.at_.addr,vF b0_job.doing,vI b0_job.hops,vI b0_job.tries,vI b0_job.due,.sl 1 ((γ 1))])),.row 56 (γ 1) false (List.map eOut r1)])
instance {val b0_job r1}:InjS (zb5 val b0_job r1):=⟨fun γ γ' x y h=>by
 rcases x with a0 <;> rcases y with a0' <;> simp only [zb5] at h <;> exact inj_⟩
def zdD (has:Bool) (val:ByteArray) (e_:Int) (b0_node:Node) (b0_job:Job) (r1:List Out):Option (Node):=asks (fun γ=>(lim F pr).call 120 [.bptr 0 0,vF has,vT val,vI e_] [.box 135 (capp (zao b0_node) (capp (cJob b0_job) ([.sl 1 (γ 1)]))),.row 56 (γ 1) false (List.map eOut r1)]) (zb5 val b0_job r1)
def zdz (b0_job:Job) (r2:List Out) (γ:Nat → Nat):(Node × (List Finger)) → AV × Store
 | (a0,a1)=>(.tup [],[.box 135 (capp (zao a0) ([vI b0_job.id,vI b0_job.kind,vI b0_job.bit,vT b0_job.key,vT b0_job.val,vU b0_job.target,vU b0_job.via.id,vH b0_job.via.addr,vU b0_job.at_.id,vH b0_job.at_.addr,vF b0_job.doing,vI b0_job.hops,vI b0_job.tries,vI b0_job.due,.sl 2 ((γ 2))])),.row 84 (γ 1) true (List.map zae a1),.row 56 (γ 2) false (List.map eOut r2)])
instance {b0_job r2}:InjS (zdz b0_job r2):=⟨fun γ γ' x y h=>by
 rcases x with ⟨a0,a1⟩ <;> rcases y with ⟨a0',a1'⟩ <;> simp only [zdz] at h <;> exact inj_⟩
def zkr (owner:Peer) (mine:Bool) (b0_node:Node) (b0_job:Job) (r2:List Out):Option ((Node × (List Finger))):=asks (fun γ=>(lim F pr).call 176 [.bptr 0 0,zah owner,vF mine] [.box 135 (capp (zaw b0_node (.sl 1 (γ 1))) (capp (cJob b0_job) ([.sl 2 (γ 2)]))),.row 84 (γ 1) false (List.map zae b0_node.fingers),.row 56 (γ 2) false (List.map eOut r2)]) (zdz b0_job r2)
def zrS (n:Node) (key:ByteArray) (val:ByteArray):Option ((Node × (List Out) × Int)):=ask (R3 zaP (eL 56 eOut) vI) ((lim F pr).call 20 [zaP n,vT key,vT val] [])
def zcV (val:ByteArray) (b0_job:Job) (r2:List Out) (γ:Nat → Nat):(Node × (List Finger)) → AV × Store
 | (a0,a1)=>(.tup [],[.box 135 (capp (zao a0) ([vI b0_job.id,vI b0_job.kind,vI b0_job.bit,vT b0_job.key,vT b0_job.val,vU b0_job.target,vU b0_job.via.id,vH b0_job.via.addr,vU b0_job.at_.id,vH b0_job.at_.addr,vF b0_job.doing,vI b0_job.hops,vI b0_job.tries,vI b0_job.due,.sl 2 ((γ 2))])),.row 84 (γ 1) true (List.map zae a1),.row 56 (γ 2) false (List.map eOut r2)])
instance {val b0_job r2}:InjS (zcV val b0_job r2):=⟨fun γ γ' x y h=>by
 rcases x with ⟨a0,a1⟩ <;> rcases y with ⟨a0',a1'⟩ <;> simp only [zcV] at h <;> exact inj_⟩
def ziN (has:Bool) (val:ByteArray) (e_:Int) (b0_node:Node) (b0_job:Job) (r2:List Out):Option ((Node × (List Finger))):=asks (fun γ=>(lim F pr).call 120 [.bptr 0 0,vF has,vT val,vI e_] [.box 135 (capp (zaw b0_node (.sl 1 (γ 1))) (capp (cJob b0_job) ([.sl 2 (γ 2)]))),.row 84 (γ 1) true (List.map zae b0_node.fingers),.row 56 (γ 2) false (List.map eOut r2)]) (zcV val b0_job r2)
def zev (b0_job:Job) (γ:Nat → Nat):(Node × (List Finger) × (List Out)) → AV × Store
 | (a0,a1,a2)=>(.tup [],[.box 135 (capp (zao a0) ([vI b0_job.id,vI b0_job.kind,vI b0_job.bit,vT b0_job.key,vT b0_job.val,vU b0_job.target,vU b0_job.via.id,vH b0_job.via.addr,vU b0_job.at_.id,vH b0_job.at_.addr,vF b0_job.doing,vI b0_job.hops,vI b0_job.tries,vI b0_job.due,.sl 2 ((γ 2))])),.row 84 (γ 1) true (List.map zae a1),.row 56 (γ 2) false (List.map eOut a2)])
instance {b0_job}:InjS (zev b0_job):=⟨fun γ γ' x y h=>by
 rcases x with ⟨a0,a1,a2⟩ <;> rcases y with ⟨a0',a1',a2'⟩ <;> simp only [zev] at h <;> exact inj_⟩
def zma (b0_node:Node) (b0_job:Job) (r2:List Out):Option ((Node × (List Finger) × (List Out))):=asks (fun γ=>(lim F pr).call 177 [.bptr 0 0] [.box 135 (capp (zaw b0_node (.sl 1 (γ 1))) (capp (cJob b0_job) ([.sl 2 (γ 2)]))),.row 84 (γ 1) false (List.map zae b0_node.fingers),.row 56 (γ 2) false (List.map eOut r2)]) (zev b0_job)
def ztK (l:List Pair) (key:ByteArray):Option ((ByteArray × Bool)):=ask (R2 vT vF) ((lim F pr).call 132 [.lit 78 false (List.map zan l),vT key] [])
abbrev zlr:=(Node × Job × (List Finger) × (List Out))
def zdO (γ:Nat → Nat):zlr → AV × Store
 | (a0,a1,a2,a3)=>(.tup [],[.box 135 (capp (zao a0) (capp (cJob a1) ([.sl 2 ((γ 2))]))),.row 84 (γ 1) true (List.map zae a2),.row 56 (γ 2) false (List.map eOut a3)])
instance :InjS zdO:=⟨fun γ γ' x y h=>by
 rcases x with ⟨a0,a1,a2,a3⟩ <;> rcases y with ⟨a0',a1',a2',a3'⟩ <;> simp only [zdO] at h <;> exact inj_⟩
def zhC (owner:Peer) (b0_node:Node) (b0_job:Job) (r2:List Out):Option (zlr):=asks (fun γ=>(lim F pr).call 112 [.bptr 0 0,zah owner] [.box 135 (capp (zaw b0_node (.sl 1 (γ 1))) (capp (cJob b0_job) ([.sl 2 (γ 2)]))),.row 84 (γ 1) false (List.map zae b0_node.fingers),.row 56 (γ 2) false (List.map eOut r2)]) zdO
abbrev zjt:=(Node × Job × (List Finger) × (List Out))
def zd2 (γ:Nat → Nat):zjt → AV × Store
 | (a0,a1,a2,a3)=>(.tup [],[.box 135 (capp (zao a0) (capp (cJob a1) ([.sl 2 ((γ 2))]))),.row 84 (γ 1) true (List.map zae a2),.row 56 (γ 2) false (List.map eOut a3)])
instance :InjS zd2:=⟨fun γ γ' x y h=>by
 rcases x with ⟨a0,a1,a2,a3⟩ <;> rcases y with ⟨a0',a1',a2',a3'⟩ <;> simp only [zd2] at h <;> exact inj_⟩
def zlp (to_:Peer) (m:Msg) (why:Int) (b0_node:Node) (b0_job:Job) (r2:List Out):Option (zjt):=asks (fun γ=>(lim F pr).call 212 [.bptr 0 0,zah to_,eMsg m,vI why] [.box 135 (capp (zaw b0_node (.sl 1 (γ 1))) (capp (cJob b0_job) ([.sl 2 (γ 2)]))),.row 84 (γ 1) true (List.map zae b0_node.fingers),.row 56 (γ 2) false (List.map eOut r2)]) zd2
abbrev ziK:=(Node × Job × (List Finger) × (List Out))
def zdA (γ:Nat → Nat):ziK → AV × Store
 | (a0,a1,a2,a3)=>(.tup [],[.box 135 (capp (zao a0) (capp (cJob a1) ([.sl 2 ((γ 2))]))),.row 84 (γ 1) true (List.map zae a2),.row 56 (γ 2) false (List.map eOut a3)])
instance :InjS zdA:=⟨fun γ γ' x y h=>by
 rcases x with ⟨a0,a1,a2,a3⟩ <;> rcases y with ⟨a0',a1',a2',a3'⟩ <;> simp only [zdA] at h <;> exact inj_⟩
def zks (to_:Peer) (b0_node:Node) (b0_job:Job) (r2:List Out):Option (ziK):=asks (fun γ=>(lim F pr).call 174 [.bptr 0 0,zah to_] [.box 135 (capp (zaw b0_node (.sl 1 (γ 1))) (capp (cJob b0_job) ([.sl 2 (γ 2)]))),.row 84 (γ 1) true (List.map zae b0_node.fingers),.row 56 (γ 2) false (List.map eOut r2)]) zdA
abbrev zkw:=(Node × Job × (List Finger) × (List Out))
def zdb (γ:Nat → Nat):zkw → AV × Store
 | (a0,a1,a2,a3)=>(.tup [],[.box 135 (capp (zao a0) (capp (cJob a1) ([.sl 2 ((γ 2))]))),.row 84 (γ 1) true (List.map zae a2),.row 56 (γ 2) false (List.map eOut a3)])
instance :InjS zdb:=⟨fun γ γ' x y h=>by
 rcases x with ⟨a0,a1,a2,a3⟩ <;> rcases y with ⟨a0',a1',a2',a3'⟩ <;> simp only [zdb] at h <;> exact inj_⟩
def zda (b0_node:Node) (b0_job:Job) (r2:List Out):Option (zkw):=asks (fun γ=>(lim F pr).call 109 [.bptr 0 0] [.box 135 (capp (zaw b0_node (.sl 1 (γ 1))) (capp (cJob b0_job) ([.sl 2 (γ 2)]))),.row 84 (γ 1) false (List.map zae b0_node.fingers),.row 56 (γ 2) false (List.map eOut r2)]) zdb
def zbG (b0_node:Node) (b0_job:Job) (r1:List Out) (γ:Nat → Nat):Node → AV × Store
 | a0=>(.tup [zaP a0,.sl 1 ((γ 1))],[.box 135 (capp (zao b0_node) (capp (cJob b0_job) ([.sl 1 ((γ 1))]))),.row 56 (γ 1) false (List.map eOut r1)])
instance {b0_node b0_job r1}:InjS (zbG b0_node b0_job r1):=⟨fun γ γ' x y h=>by
 rcases x with a0 <;> rcases y with a0' <;> simp only [zbG] at h <;> exact inj_⟩
def zbe (b0_node:Node) (b0_job:Job) (r1:List Out):Option (Node):=asks (fun γ=>(lim F pr).call 97 [.bptr 0 0] [.box 135 (capp (zao b0_node) (capp (cJob b0_job) ([.sl 1 (γ 1)]))),.row 56 (γ 1) false (List.map eOut r1)]) (zbG b0_node b0_job r1)
abbrev zkq:=(Int × Int × Int × Bool × (List Entry) × (List Entry) × (List Pair) × (List Pend) × (List Job) × (List Result) × Int × Int × Int)
def zbB (b0_node:Node) (b0_job:Job) (r2:List Out) (γ:Nat → Nat):zkq → AV × Store
 | (a0,a1,a2,a3,a4,a5,a6,a7,a8,a9,a10,a11,a12)=>(.tup [.agg [vU a0,vH a1,vI a2,vF a3,.lit 81 false (List.map zai a4),.lit 81 false (List.map zai a5),.sl 1 ((γ 1)),.lit 78 false (List.map zan a6),.lit 88 false (List.map za4 a7),.lit 67 false (List.map eJob a8),.lit 60 false (List.map zaq a9),vW a10,vI a11,vI a12],.sl 2 ((γ 2))],[.box 135 (capp (zaw b0_node (.sl 1 ((γ 1)))) (capp (cJob b0_job) ([.sl 2 ((γ 2))]))),.row 84 (γ 1) false (List.map zae b0_node.fingers),.row 56 (γ 2) false (List.map eOut r2)])
instance {b0_node b0_job r2}:InjS (zbB b0_node b0_job r2):=⟨fun γ γ' x y h=>by
 rcases x with ⟨a0,a1,a2,a3,a4,a5,a6,a7,a8,a9,a10,a11,a12⟩ <;> rcases y with ⟨a0',a1',a2',a3',a4',a5',a6',a7',a8',a9',a10',a11',a12'⟩ <;> simp only [zbB] at h <;> exact inj_⟩
def zaY (b0_node:Node) (b0_job:Job) (r2:List Out):Option (zkq):=asks (fun γ=>(lim F pr).call 97 [.bptr 0 0] [.box 135 (capp (zaw b0_node (.sl 1 (γ 1))) (capp (cJob b0_job) ([.sl 2 (γ 2)]))),.row 84 (γ 1) false (List.map zae b0_node.fingers),.row 56 (γ 2) false (List.map eOut r2)]) (zbB b0_node b0_job r2)
def zkJ (n:Node) (id:Int):Option (Int):=ask (R1 vI) ((lim F pr).call 110 [zaP n,vI id] [])
def zkm (n:Node) (j:Job):Option ((Node × (List Out))):=ask (R2 zaP (eL 56 eOut)) ((lim F pr).call 111 [zaP n,eJob j] [])
abbrev zgS:=(Node × Job × (List Finger)) ⊕ (Node × Job × (List Finger) × (List Out))
def zbX (r2:List Out) (γ:Nat → Nat):zgS → AV × Store
 | .inl (a0,a1,a2)=>(.tup [],[.box 135 (capp (zaw a0 (.sl 3 ((γ 3)))) (capp (cJob a1) ([.sl 2 ((γ 2))]))),.row 84 (γ 1) true (List.map zae a2),.row 56 (γ 2) false (List.map eOut r2),.row 84 (γ 3) false (List.map zae a0.fingers)])
 | .inr (b0,b1,b2,b3)=>(.tup [],[.box 135 (capp (zao b0) (capp (cJob b1) ([.sl 2 ((γ 2))]))),.row 84 (γ 1) true (List.map zae b2),.row 56 (γ 2) false (List.map eOut b3)])
instance {r2}:InjS (zbX r2):=⟨fun γ γ' x y h=>by
 rcases x with ⟨a0,a1,a2⟩ | ⟨b0,b1,b2,b3⟩ <;> rcases y with ⟨a0',a1',a2'⟩ | ⟨b0',b1',b2',b3'⟩ <;> simp only [zbX] at h <;> exact inj_⟩
def zcE (why:Int) (b0_node:Node) (b0_job:Job) (r2:List Out):Option (zgS):=asks (fun γ=>(lim F pr).call 96 [.bptr 0 0,vI why] [.box 135 (capp (zaw b0_node (.sl 1 (γ 1))) (capp (cJob b0_job) ([.sl 2 (γ 2)]))),.row 84 (γ 1) false (List.map zae b0_node.fingers),.row 56 (γ 2) false (List.map eOut r2)]) (zbX r2)
def zgg (a:Int) (x:Int) (b:Int):Option (Bool):=ask (R1 vF) ((lim F pr).call 128 [vU a,vU x,vU b] [])
def zcU (b1_node:Node) (b1_job:Job) (r3:List Out) (γ:Nat → Nat):Bool → AV × Store
 | a0=>(vF a0,[.box 120 [.bptr 1 0],.box 135 (capp (zaw b1_node (.sl 2 ((γ 2)))) (capp (cJob b1_job) ([.sl 3 ((γ 3))]))),.row 84 (γ 2) false (List.map zae b1_node.fingers),.row 56 (γ 3) false (List.map eOut r3)])
instance {b1_node b1_job r3}:InjS (zcU b1_node b1_job r3):=⟨fun γ γ' x y h=>by
 rcases x with a0 <;> rcases y with a0' <;> simp only [zcU] at h <;> exact inj_⟩
def ziM (p:Peer) (b1_node:Node) (b1_job:Job) (r3:List Out):Option (Bool):=asks (fun γ=>(lim F pr).call 179 [zah p,.bptr 0 0] [.box 120 [.bptr 1 0],.box 135 (capp (zaw b1_node (.sl 2 (γ 2))) (capp (cJob b1_job) ([.sl 3 (γ 3)]))),.row 84 (γ 2) false (List.map zae b1_node.fingers),.row 56 (γ 3) false (List.map eOut r3)]) (zcU b1_node b1_job r3)
def zdo (b1_node:Node) (b1_job:Job) (r3:List Out) (γ:Nat → Nat):Int → AV × Store
 | a0=>(vI a0,[.box 120 [.bptr 1 0],.box 135 (capp (zaw b1_node (.sl 2 ((γ 2)))) (capp (cJob b1_job) ([.sl 3 ((γ 3))]))),.row 84 (γ 2) false (List.map zae b1_node.fingers),.row 56 (γ 3) false (List.map eOut r3)])
instance {b1_node b1_job r3}:InjS (zdo b1_node b1_job r3):=⟨fun γ γ' x y h=>by
 rcases x with a0 <;> rcases y with a0' <;> simp only [zdo] at h <;> exact inj_⟩
def zkg (s:List Peer) (b1_node:Node) (b1_job:Job) (r3:List Out):Option (Int):=asks (fun γ=>(lim F pr).call 178 [.lit 25 false (List.map zah s),.fn 179 [.bptr 0 0]] [.box 120 [.bptr 1 0],.box 135 (capp (zaw b1_node (.sl 2 (γ 2))) (capp (cJob b1_job) ([.sl 3 (γ 3)]))),.row 84 (γ 2) false (List.map zae b1_node.fingers),.row 56 (γ 3) false (List.map eOut r3)]) (zdo b1_node b1_job r3)
abbrev zfk:=(Node × Job × (List Finger)) ⊕ (Node × Job × (List Finger) × (List Out))
def zdC (r2:List Out) (γ:Nat → Nat):zfk → AV × Store
 | .inl (a0,a1,a2)=>(.tup [],[.box 135 (capp (zaw a0 (.sl 3 ((γ 3)))) (capp (cJob a1) ([.sl 2 ((γ 2))]))),.row 84 (γ 1) true (List.map zae a2),.row 56 (γ 2) false (List.map eOut r2),.row 84 (γ 3) false (List.map zae a0.fingers)])
 | .inr (b0,b1,b2,b3)=>(.tup [],[.box 135 (capp (zao b0) (capp (cJob b1) ([.sl 2 ((γ 2))]))),.row 84 (γ 1) true (List.map zae b2),.row 56 (γ 2) false (List.map eOut b3)])
instance {r2}:InjS (zdC r2):=⟨fun γ γ' x y h=>by
 rcases x with ⟨a0,a1,a2⟩ | ⟨b0,b1,b2,b3⟩ <;> rcases y with ⟨a0',a1',a2'⟩ | ⟨b0',b1',b2',b3'⟩ <;> simp only [zdC] at h <;> exact inj_⟩
def zgT (l:List Peer) (b0_node:Node) (b0_job:Job) (r2:List Out):Option (zfk):=asks (fun γ=>(lim F pr).call 113 [.bptr 0 0,.lit 25 false (List.map zah l)] [.box 135 (capp (zaw b0_node (.sl 1 (γ 1))) (capp (cJob b0_job) ([.sl 2 (γ 2)]))),.row 84 (γ 1) false (List.map zae b0_node.fingers),.row 56 (γ 2) false (List.map eOut r2)]) (zdC r2)
def zkl (n:Node) (j:Job) (why:Int):Option ((Node × (List Out))):=ask (R2 zaP (eL 56 eOut)) ((lim F pr).call 114 [zaP n,eJob j,vI why] [])
def zuK (n:Node) (j:Job) (owner:Peer):Option ((Node × (List Out))):=ask (R2 zaP (eL 56 eOut)) ((lim F pr).call 115 [zaP n,eJob j,zah owner] [])
def zmg (a:Int) (x:Int) (b:Int):Option (Bool):=ask (R1 vF) ((lim F pr).call 116 [vU a,vU x,vU b] [])
def zbI (n:Node) (j:Job) (has:Bool) (val:ByteArray) (e_:Int):Option (Node):=ask (R1 zaP) ((lim F pr).call 117 [zaP n,eJob j,vF has,vT val,vI e_] [])
def ziw (n:Node) (j:Job) (to_:Peer):Option ((Node × (List Out))):=ask (R2 zaP (eL 56 eOut)) ((lim F pr).call 118 [zaP n,eJob j,zah to_] [])
def zta (me:Peer) (l:List Entry) (p:Peer):Option ((List Entry)):=ask (R1 (eL 81 zai)) ((lim F pr).call 127 [zah me,.lit 81 false (List.map zai l),zah p] [])
def zdE (n:Node) (b0_job:Job) (γ:Nat → Nat):(List Out) → AV × Store
 | a0=>(.tup [],[.box 135 (capp (zao n) (capp (cJob b0_job) ([.sl 1 ((γ 1))]))),.row 56 (γ 1) false (List.map eOut a0)])
instance {n b0_job}:InjS (zdE n b0_job):=⟨fun γ γ' x y h=>by
 rcases x with a0 <;> rcases y with a0' <;> simp only [zdE] at h <;> exact inj_⟩
def zgW (n:Node) (out:List Out) (b0_node:Node) (b0_job:Job) (r1:List Out):Option ((List Out)):=asks (fun γ=>(lim F pr).call 184 [.bptr 0 0,zaP n,.lit 56 false (List.map eOut out)] [.box 135 (capp (zao b0_node) (capp (cJob b0_job) ([.sl 1 (γ 1)]))),.row 56 (γ 1) false (List.map eOut r1)]) (zdE n b0_job)
def zdB (b0_job:Job) (γ:Nat → Nat):(Node × (List Finger) × (List Out)) → AV × Store
 | (a0,a1,a2)=>(.tup [],[.box 135 (capp (zao a0) ([vI b0_job.id,vI b0_job.kind,vI b0_job.bit,vT b0_job.key,vT b0_job.val,vU b0_job.target,vU b0_job.via.id,vH b0_job.via.addr,vU b0_job.at_.id,vH b0_job.at_.addr,vF b0_job.doing,vI b0_job.hops,vI b0_job.tries,vI b0_job.due,.sl 2 ((γ 2))])),.row 84 (γ 1) true (List.map zae a1),.row 56 (γ 2) false (List.map eOut a2)])
instance {b0_job}:InjS (zdB b0_job):=⟨fun γ γ' x y h=>by
 rcases x with ⟨a0,a1,a2⟩ <;> rcases y with ⟨a0',a1',a2'⟩ <;> simp only [zdB] at h <;> exact inj_⟩
def zku (b0_node:Node) (b0_job:Job) (r2:List Out):Option ((Node × (List Finger) × (List Out))):=asks (fun γ=>(lim F pr).call 119 [.bptr 0 0] [.box 135 (capp (zaw b0_node (.sl 1 (γ 1))) (capp (cJob b0_job) ([.sl 2 (γ 2)]))),.row 84 (γ 1) false (List.map zae b0_node.fingers),.row 56 (γ 2) false (List.map eOut r2)]) (zdB b0_job)
def zuI (me:Peer) (l:List Entry) (p:Peer):Option ((List Entry)):=ask (R1 (eL 81 zai)) ((lim F pr).call 121 [zah me,.lit 81 false (List.map zai l),zah p] [])
def zlX (n:Node) (to_:Peer) (m:Msg) (why:Int) (job:Int):Option ((Node × (List Out))):=ask (R2 zaP (eL 56 eOut)) ((lim F pr).call 82 [zaP n,zah to_,eMsg m,vI why,vI job] [])
def zru (a:List Entry) (b:List Entry):Option (Bool):=ask (R1 vF) ((lim F pr).call 69 [.lit 81 false (List.map zai a),.lit 81 false (List.map zai b)] [])
def zvu (a:List Finger) (b:List Finger):Option (Bool):=ask (R1 vF) ((lim F pr).call 70 [.lit 84 false (List.map zae a),.lit 84 false (List.map zae b)] [])
def zoN (a:List Pair) (b:List Pair):Option (Bool):=ask (R1 vF) ((lim F pr).call 71 [.lit 78 false (List.map zan a),.lit 78 false (List.map zan b)] [])
def ztt (a:List Pend) (b:List Pend):Option (Bool):=ask (R1 vF) ((lim F pr).call 72 [.lit 88 false (List.map za4 a),.lit 88 false (List.map za4 b)] [])
def zvv (a:Node) (b:Node):Option (Bool):=ask (R1 vF) ((lim F pr).call 73 [zaP a,zaP b] [])
def zvr (a:Msg) (b:Msg):Option (Bool):=ask (R1 vF) ((lim F pr).call 74 [eMsg a,eMsg b] [])
def zxk (s:ByteArray):Option (Bool):=ask (R1 vF) ((lim F pr).call 24 [vT s] [])
def zg1 (b0:Int):Bool → AV × Store
 | a0=>(vF a0,[.box 3 [vI b0]])
instance {b0}:Inj (zg1 b0):=⟨fun x y h=>by
 rcases x with a0 <;> rcases y with a0' <;> simp only [zg1] at h <;> exact inj_⟩
def zpd (j:Job) (b0:Int):Option (Bool):=ask (zg1 b0) ((lim F pr).call 210 [eJob j,.bptr 0 0] [.box 3 [vI b0]])
def zdU (b0:Int):Int → AV × Store
 | a0=>(vI a0,[.box 3 [vI b0]])
instance {b0}:Inj (zdU b0):=⟨fun x y h=>by
 rcases x with a0 <;> rcases y with a0' <;> simp only [zdU] at h <;> exact inj_⟩
def zon (s:List Job) (b0:Int):Option (Int):=ask (zdU b0) ((lim F pr).call 209 [.lit 67 false (List.map eJob s),.fn 210 [.bptr 0 0]] [.box 3 [vI b0]])
def zvp (m:Msg):Option (Msg):=ask (R1 eMsg) ((lim F pr).call 149 [eMsg m] [])
def zvq (n:Node):Option (Int):=ask (R1 vI) ((lim F pr).call 150 [zaP n] [])
def zkU (l:List Entry):Option ((List Peer)):=ask (K1 25 zah) ((lim F pr).call 76 [.lit 81 false (List.map zai l)] [])
def zkK (a:Int) (x:Int) (b:Int):Option (Bool):=ask (R1 vF) ((lim F pr).call 190 [vU a,vU x,vU b] [])
def zn7 (n:Node) (key:Int):Option (Bool):=ask (R1 vF) ((lim F pr).call 191 [zaP n,vU key] [])
def zq3 (me:Peer) (l:List Entry) (f:List Finger) (key:Int) (most:Int):Option ((List Peer)):=ask (R1 (eL 25 zah)) ((lim F pr).call 192 [zah me,.lit 81 false (List.map zai l),.lit 84 false (List.map zae f),vU key,vI most] [])
def zhU (γ:Nat → Nat):(List Job) → AV × Store
 | a0=>(.sl 0 ((γ 0)),[.row 67 (γ 0) false (List.map eJob a0)])
instance :InjS zhU:=⟨fun γ γ' x y h=>by
 rcases x with a0 <;> rcases y with a0' <;> simp only [zhU] at h <;> exact inj_⟩
def zqJ (i:Int) (j:Int) (r0:List Job):Option ((List Job)):=asks (fun γ=>(lim F pr).call 219 [.sl 0 (γ 0),vI i,vI j] [.row 67 (γ 0) false (List.map eJob r0)]) zhU
def zjz (zbp:Int) (za8:Int) (zbn:Int) (zbd:Bool) (zbP:Int) (zbo:Int) (za9:Int) (r1:List Entry) (r2:List Entry) (r3:List Finger) (r4:List Pair) (r5:List Pend) (r6:List Job) (r7:List Result) (γ:Nat → Nat):((List Result) × (List Result)) ⊕ Unit → AV × Store
 | .inl (a0,a1)=>(.tup [],[.box 34 [vU zbp,vH za8,vI zbn,vF zbd,.sl 1 ((γ 1)),.sl 2 ((γ 2)),.sl 3 ((γ 3)),.sl 4 ((γ 4)),.sl 5 ((γ 5)),.sl 6 ((γ 6)),.sl 8 ((γ 8)),vW zbP,vI zbo,vI za9],.row 81 (γ 1) false (List.map zai r1),.row 81 (γ 2) false (List.map zai r2),.row 84 (γ 3) false (List.map zae r3),.row 78 (γ 4) false (List.map zan r4),.row 88 (γ 5) false (List.map za4 r5),.row 67 (γ 6) false (List.map eJob r6),.row 60 (γ 7) false (List.map zaq a0),.row 60 (γ 8) false (List.map zaq a1)])
 | .inr ()=>(.tup [],[.box 34 [vU zbp,vH za8,vI zbn,vF zbd,.sl 1 ((γ 1)),.sl 2 ((γ 2)),.sl 3 ((γ 3)),.sl 4 ((γ 4)),.sl 5 ((γ 5)),.sl 6 ((γ 6)),.sl 7 ((γ 7)),vW zbP,vI zbo,vI za9],.row 81 (γ 1) false (List.map zai r1),.row 81 (γ 2) false (List.map zai r2),.row 84 (γ 3) false (List.map zae r3),.row 78 (γ 4) false (List.map zan r4),.row 88 (γ 5) false (List.map za4 r5),.row 67 (γ 6) false (List.map eJob r6),.row 60 (γ 7) false (List.map zaq r7)])
instance {zbp za8 zbn zbd zbP zbo za9 r1 r2 r3 r4 r5 r6 r7}:InjS (zjz zbp za8 zbn zbd zbP zbo za9 r1 r2 r3 r4 r5 r6 r7):=⟨fun γ γ' x y h=>by
 rcases x with ⟨a0,a1⟩ | _ <;> rcases y with ⟨a0',a1'⟩ | _ <;> simp only [zjz] at h <;> exact inj_⟩
def zsY (j:Job) (has:Bool) (val:ByteArray) (e_:Int) (zbp:Int) (za8:Int) (zbn:Int) (zbd:Bool) (zbP:Int) (zbo:Int) (za9:Int) (r1:List Entry) (r2:List Entry) (r3:List Finger) (r4:List Pair) (r5:List Pend) (r6:List Job) (r7:List Result):Option (((List Result) × (List Result)) ⊕ Unit):=asks (fun γ=>(lim F pr).call 220 [.bptr 0 0,eJob j,vF has,vT val,vI e_] [.box 34 [vU zbp,vH za8,vI zbn,vF zbd,.sl 1 (γ 1),.sl 2 (γ 2),.sl 3 (γ 3),.sl 4 (γ 4),.sl 5 (γ 5),.sl 6 (γ 6),.sl 7 (γ 7),vW zbP,vI zbo,vI za9],.row 81 (γ 1) false (List.map zai r1),.row 81 (γ 2) false (List.map zai r2),.row 84 (γ 3) false (List.map zae r3),.row 78 (γ 4) false (List.map zan r4),.row 88 (γ 5) false (List.map za4 r5),.row 67 (γ 6) false (List.map eJob r6),.row 60 (γ 7) false (List.map zaq r7)]) (zjz zbp za8 zbn zbd zbP zbo za9 r1 r2 r3 r4 r5 r6 r7)
def zgY (b0:Int):Bool → AV × Store
 | a0=>(vF a0,[.box 3 [vI b0]])
instance {b0}:Inj (zgY b0):=⟨fun x y h=>by
 rcases x with a0 <;> rcases y with a0' <;> simp only [zgY] at h <;> exact inj_⟩
def zo9 (f:Finger) (b0:Int):Option (Bool):=ask (zgY b0) ((lim F pr).call 234 [zae f,.bptr 0 0] [.box 3 [vI b0]])
def zcK (r0:List Finger) (b1:Int) (γ:Nat → Nat):Int → AV × Store
 | a0=>(vI a0,[.row 84 (γ 0) false (List.map zae r0),.box 3 [vI b1]])
instance {r0 b1}:InjS (zcK r0 b1):=⟨fun γ γ' x y h=>by
 rcases x with a0 <;> rcases y with a0' <;> simp only [zcK] at h <;> exact inj_⟩
def zhV (r0:List Finger) (b1:Int):Option (Int):=askg (fun γ=>(lim F pr).call 233 [.sl 0 (γ 0),.fn 234 [.bptr 1 0]] [.row 84 (γ 0) false (List.map zae r0),.box 3 [vI b1]]) (zcK r0 b1)
def zgZ (b0:Int):Bool → AV × Store
 | a0=>(vF a0,[.box 3 [vI b0]])
instance {b0}:Inj (zgZ b0):=⟨fun x y h=>by
 rcases x with a0 <;> rcases y with a0' <;> simp only [zgZ] at h <;> exact inj_⟩
def zpa (f:Finger) (b0:Int):Option (Bool):=ask (zgZ b0) ((lim F pr).call 235 [zae f,.bptr 0 0] [.box 3 [vI b0]])
def zcL (r0:List Finger) (b1:Int) (γ:Nat → Nat):Int → AV × Store
 | a0=>(vI a0,[.row 84 (γ 0) false (List.map zae r0),.box 3 [vI b1]])
instance {r0 b1}:InjS (zcL r0 b1):=⟨fun γ γ' x y h=>by
 rcases x with a0 <;> rcases y with a0' <;> simp only [zcL] at h <;> exact inj_⟩
def zhW (r0:List Finger) (b1:Int):Option (Int):=askg (fun γ=>(lim F pr).call 233 [.sl 0 (γ 0),.fn 235 [.bptr 1 0]] [.row 84 (γ 0) false (List.map zae r0),.box 3 [vI b1]]) (zcL r0 b1)
def ztL (l:List Pair) (key:ByteArray) (val:ByteArray):Option (((List Pair) × Int)):=ask (R2 (eL 78 zan) vI) ((lim F pr).call 75 [.lit 78 false (List.map zan l),vT key,vT val] [])
def zrR (n:Node) (to_:Peer) (l:List Pair) (fresh:Bool):Option ((Node × (List Out))):=ask (R2 zaP (eL 56 eOut)) ((lim F pr).call 22 [zaP n,zah to_,.lit 78 false (List.map zan l),vF fresh] [])
def zmv (l:List Pair) (key:ByteArray):Option (Int):=ask (R1 vI) ((lim F pr).call 141 [.lit 78 false (List.map zan l),vT key] [])
def znZ (l:List Job) (id:Int):Option (Int):=ask (R1 vI) ((lim F pr).call 33 [.lit 67 false (List.map eJob l),vI id] [])
def zvx (n:Node) (key:Int):Option ((Peer × (List Peer) × Bool)):=ask (R3 zah (eL 25 zah) vF) ((lim F pr).call 63 [zaP n,vU key] [])
def zix (a:Int) (b:Int):Option (Int):=ask (R1 vU) ((lim F pr).call 166 [vU a,vU b] [])
def zf7 (n:Node) (j:Job):Option (Node):=ask (R1 zaP) ((lim F pr).call 180 [zaP n,eJob j] [])
def zuJ (n:Node) (j:Job) (to_:Peer):Option ((Node × (List Out))):=ask (R2 zaP (eL 56 eOut)) ((lim F pr).call 181 [zaP n,eJob j,zah to_] [])
def zvz (n:Node) (key:ByteArray) (val:ByteArray):Option ((Node × (List Out) × Int)):=ask (R3 zaP (eL 56 eOut) vI) ((lim F pr).call 21 [zaP n,vT key,vT val] [])
def zxw (l:List Pair) (key:ByteArray):Option ((ByteArray × Bool)):=ask (R2 vT vF) ((lim F pr).call 68 [.lit 78 false (List.map zan l),vT key] [])
def zxv (l:List Finger) (bit:Int) (p:Peer):Option ((List Finger)):=ask (R1 (eL 84 zae)) ((lim F pr).call 182 [.lit 84 false (List.map zae l),vI bit,zah p] [])
def znS (a:Int) (x:Int) (b:Int):Option (Bool):=ask (R1 vF) ((lim F pr).call 134 [vU a,vU x,vU b] [])
def zrD (n:Node) (id:Int) (has:Bool) (val:ByteArray) (e_:Int):Option (Node):=ask (R1 zaP) ((lim F pr).call 183 [zaP n,vI id,vF has,vT val,vI e_] [])
def zpj (l:List Entry) (addr:Int):Option (Int):=ask (R1 vI) ((lim F pr).call 98 [.lit 81 false (List.map zai l),vH addr] [])
def zri (l:List Entry) (addr:Int):Option ((List Entry)):=ask (K1 81 zai) ((lim F pr).call 194 [.lit 81 false (List.map zai l),vH addr] [])
def zpi (me:Peer) (a:Peer) (b:Peer):Option (Bool):=ask (R1 vF) ((lim F pr).call 99 [zah me,zah a,zah b] [])
def zg2 (zaU:Int) (zav:Int) (zbf:Int) (za2:Int):Bool → AV × Store
 | a0=>(vF a0,[.box 25 [vU zaU,vH zav],.box 25 [vU zbf,vH za2]])
instance {zaU zav zbf za2}:Inj (zg2 zaU zav zbf za2):=⟨fun x y h=>by
 rcases x with a0 <;> rcases y with a0' <;> simp only [zg2] at h <;> exact inj_⟩
def zpg (x:Entry) (zaU:Int) (zav:Int) (zbf:Int) (za2:Int):Option (Bool):=ask (zg2 zaU zav zbf za2) ((lim F pr).call 195 [zai x,.bptr 0 0,.bptr 1 0] [.box 25 [vU zaU,vH zav],.box 25 [vU zbf,vH za2]])
def zdT (zaU:Int) (zav:Int) (zbf:Int) (za2:Int):Int → AV × Store
 | a0=>(vI a0,[.box 25 [vU zaU,vH zav],.box 25 [vU zbf,vH za2]])
instance {zaU zav zbf za2}:Inj (zdT zaU zav zbf za2):=⟨fun x y h=>by
 rcases x with a0 <;> rcases y with a0' <;> simp only [zdT] at h <;> exact inj_⟩
def zkN (s:List Entry) (zaU:Int) (zav:Int) (zbf:Int) (za2:Int):Option (Int):=ask (zdT zaU zav zbf za2) ((lim F pr).call 164 [.lit 81 false (List.map zai s),.fn 195 [.bptr 0 0,.bptr 1 0]] [.box 25 [vU zaU,vH zav],.box 25 [vU zbf,vH za2]])
def zoP (l:List Entry) (addr:Int):Option (Int):=ask (R1 vI) ((lim F pr).call 186 [.lit 81 false (List.map zai l),vH addr] [])
def zvs (l:List Entry) (addr:Int):Option ((List Entry)):=ask (R1 (eL 81 zai)) ((lim F pr).call 187 [.lit 81 false (List.map zai l),vH addr] [])
def ztm (me:Peer) (a:Peer) (b:Peer):Option (Bool):=ask (R1 vF) ((lim F pr).call 188 [zah me,zah a,zah b] [])
def zxy (n:Node):Option (Int):=ask (R1 vI) ((lim F pr).call 151 [zaP n] [])
def zoO (a:List Peer) (b:List Peer):Option (Bool):=ask (R1 vF) ((lim F pr).call 140 [.lit 25 false (List.map zah a),.lit 25 false (List.map zah b)] [])
def ztO (s:ByteArray):Option (Bool):=ask (R1 vF) ((lim F pr).call 83 [vT s] [])
def ztN (s:ByteArray):Option (Int):=ask (R1 vI) ((lim F pr).call 84 [vT s] [])
def ztc (l:List Entry):Option ((List Peer)):=ask (K1 25 zah) ((lim F pr).call 145 [.lit 81 false (List.map zai l),.fn 146 []] [])
def zfH (zaU:Int) (zav:Int):Bool → AV × Store
 | a0=>(vF a0,[.box 25 [vU zaU,vH zav]])
instance {zaU zav}:Inj (zfH zaU zav):=⟨fun x y h=>by
 rcases x with a0 <;> rcases y with a0' <;> simp only [zfH] at h <;> exact inj_⟩
def znI (q:Peer) (zaU:Int) (zav:Int):Option (Bool):=ask (zfH zaU zav) ((lim F pr).call 221 [zah q,.bptr 0 0] [.box 25 [vU zaU,vH zav]])
def zel (zaU:Int) (zav:Int):Int → AV × Store
 | a0=>(vI a0,[.box 25 [vU zaU,vH zav]])
instance {zaU zav}:Inj (zel zaU zav):=⟨fun x y h=>by
 rcases x with a0 <;> rcases y with a0' <;> simp only [zel] at h <;> exact inj_⟩
def zlx (s:List Peer) (zaU:Int) (zav:Int):Option (Int):=ask (zel zaU zav) ((lim F pr).call 178 [.lit 25 false (List.map zah s),.fn 221 [.bptr 0 0]] [.box 25 [vU zaU,vH zav]])
def zhz (b0:ByteArray):Bool → AV × Store
 | a0=>(vF a0,[.box 9 [vT b0]])
instance {b0}:Inj (zhz b0):=⟨fun x y h=>by
 rcases x with a0 <;> rcases y with a0' <;> simp only [zhz] at h <;> exact inj_⟩
def zpN (p:Pair) (b0:ByteArray):Option (Bool):=ask (zhz b0) ((lim F pr).call 143 [zan p,.bptr 0 0] [.box 9 [vT b0]])
def zdm (b0:ByteArray):Int → AV × Store
 | a0=>(vI a0,[.box 9 [vT b0]])
instance {b0}:Inj (zdm b0):=⟨fun x y h=>by
 rcases x with a0 <;> rcases y with a0' <;> simp only [zdm] at h <;> exact inj_⟩
def zkf (s:List Pair) (b0:ByteArray):Option (Int):=ask (zdm b0) ((lim F pr).call 142 [.lit 78 false (List.map zan s),.fn 143 [.bptr 0 0]] [.box 9 [vT b0]])
def ze7 (b0:ByteArray):Bool → AV × Store
 | a0=>(vF a0,[.box 9 [vT b0]])
instance {b0}:Inj (ze7 b0):=⟨fun x y h=>by
 rcases x with a0 <;> rcases y with a0' <;> simp only [ze7] at h <;> exact inj_⟩
def zkb (p:Pair) (b0:ByteArray):Option (Bool):=ask (ze7 b0) ((lim F pr).call 202 [zan p,.bptr 0 0] [.box 9 [vT b0]])
def zdn (b0:ByteArray):Int → AV × Store
 | a0=>(vI a0,[.box 9 [vT b0]])
instance {b0}:Inj (zdn b0):=⟨fun x y h=>by
 rcases x with a0 <;> rcases y with a0' <;> simp only [zdn] at h <;> exact inj_⟩
def zny (s:List Pair) (b0:ByteArray):Option (Int):=ask (zdn b0) ((lim F pr).call 142 [.lit 78 false (List.map zan s),.fn 202 [.bptr 0 0]] [.box 9 [vT b0]])
def znU (l:List Entry):Option ((List Peer)):=ask (K1 25 zah) ((lim F pr).call 78 [.lit 81 false (List.map zai l)] [])
def zvt (me:Peer) (l:List Entry) (f:List Finger) (key:Int) (most:Int):Option ((List Peer)):=ask (R1 (eL 25 zah)) ((lim F pr).call 135 [zah me,.lit 81 false (List.map zai l),.lit 84 false (List.map zae f),vU key,vI most] [])
def zxx (l:List Pair) (key:ByteArray) (val:ByteArray):Option (((List Pair) × Int)):=ask (R2 (eL 78 zan) vI) ((lim F pr).call 77 [.lit 78 false (List.map zan l),vT key,vT val] [])
def zvy (n:Node) (to_:Peer) (l:List Pair) (fresh:Bool):Option ((Node × (List Out))):=ask (R2 zaP (eL 56 eOut)) ((lim F pr).call 23 [zaP n,zah to_,.lit 78 false (List.map zan l),vF fresh] [])
def zoT (l:List Pair) (key:ByteArray):Option (Int):=ask (R1 vI) ((lim F pr).call 139 [.lit 78 false (List.map zan l),vT key] [])
def zxu (l:List Finger) (bit:Int):Option ((Peer × Bool)):=ask (R2 zah vF) ((lim F pr).call 216 [.lit 84 false (List.map zae l),vI bit] [])
def zvw (l:List Result) (j:Job) (has:Bool) (val:ByteArray) (e_:Int):Option ((List Result)):=ask (R1 (eL 60 zaq)) ((lim F pr).call 217 [.lit 60 false (List.map zaq l),eJob j,vF has,vT val,vI e_] [])
def zpC (l:List Job) (at_:Int):Option ((List Job)):=ask (R1 (eL 67 eJob)) ((lim F pr).call 218 [.lit 67 false (List.map eJob l),vI at_] [])
def zeW (b0:Int):Bool → AV × Store
 | a0=>(vF a0,[.box 23 [vH b0]])
instance {b0}:Inj (zeW b0):=⟨fun x y h=>by
 rcases x with a0 <;> rcases y with a0' <;> simp only [zeW] at h <;> exact inj_⟩
def zjS (x:Entry) (b0:Int):Option (Bool):=ask (zeW b0) ((lim F pr).call 165 [zai x,.bptr 0 0] [.box 23 [vH b0]])
def zc0 (b0:Int):Int → AV × Store
 | a0=>(vI a0,[.box 23 [vH b0]])
instance {b0}:Inj (zc0 b0):=⟨fun x y h=>by
 rcases x with a0 <;> rcases y with a0' <;> simp only [zc0] at h <;> exact inj_⟩
def zjl (s:List Entry) (b0:Int):Option (Int):=ask (zc0 b0) ((lim F pr).call 164 [.lit 81 false (List.map zai s),.fn 165 [.bptr 0 0]] [.box 23 [vH b0]])
def zee (b0:Int):Bool → AV × Store
 | a0=>(vF a0,[.box 23 [vH b0]])
instance {b0}:Inj (zee b0):=⟨fun x y h=>by
 rcases x with a0 <;> rcases y with a0' <;> simp only [zee] at h <;> exact inj_⟩
def zfN (x:Entry) (b0:Int):Option (Bool):=ask (zee b0) ((lim F pr).call 228 [zai x,.bptr 0 0] [.box 23 [vH b0]])
def zc1 (b0:Int):Int → AV × Store
 | a0=>(vI a0,[.box 23 [vH b0]])
instance {b0}:Inj (zc1 b0):=⟨fun x y h=>by
 rcases x with a0 <;> rcases y with a0' <;> simp only [zc1] at h <;> exact inj_⟩
def zjm (s:List Entry) (b0:Int):Option (Int):=ask (zc1 b0) ((lim F pr).call 164 [.lit 81 false (List.map zai s),.fn 228 [.bptr 0 0]] [.box 23 [vH b0]])
def zdk (b1:Int) (γ:Nat → Nat):(List Entry) → AV × Store
 | a0=>(.sl 0 ((γ 0)),[.row 81 (γ 0) false (List.map zai a0),.box 23 [vH b1]])
instance {b1}:InjS (zdk b1):=⟨fun γ γ' x y h=>by
 rcases x with a0 <;> rcases y with a0' <;> simp only [zdk] at h <;> exact inj_⟩
def zkd (r0:List Entry) (b1:Int):Option ((List Entry)):=asks (fun γ=>(lim F pr).call 227 [.sl 0 (γ 0),.fn 228 [.bptr 1 0]] [.row 81 (γ 0) false (List.map zai r0),.box 23 [vH b1]]) (zdk b1)
def zlO (a:Int) (b:Int):Option (Int):=ask (R1 vU) ((lim F pr).call 201 [vU a,vU b] [])
def ztP (s:ByteArray) (at_:Int) (c:Int):Option (Bool):=ask (R1 vF) ((lim F pr).call 152 [vT s,vI at_,vR c] [])
def zrj (x:Entry):Option (Bool):=ask (R1 vF) ((lim F pr).call 146 [zai x] [])
def zto (l:List Peer) (addr:Int):Option (Bool):=ask (R1 vF) ((lim F pr).call 200 [.lit 25 false (List.map zah l),vH addr] [])
def zxt (s:ByteArray):Option (Bool):=ask (R1 vF) ((lim F pr).call 25 [vT s] [])
def zrq (a:ByteArray) (b:ByteArray):Option (Bool):=ask (R1 vF) ((lim F pr).call 147 [vT a,vT b] [])
def zte (s:ByteArray):Option (Bool):=ask (R1 vF) ((lim F pr).call 85 [vT s] [])
def zoM (s:ByteArray):Option ((List ByteArray)):=ask (R1 (eL 9 vT)) ((lim F pr).call 86 [vT s] [])
def zid (s:ByteArray) (at_:Int):Option (Int):=ask (R1 vI) ((lim F pr).call 153 [vT s,vI at_] [])
def zie (c:Int):Option (Bool):=ask (R1 vF) ((lim F pr).call 207 [vB c] [])
end Go.Ab.Tryz
namespace Go.Ab.Tryz
open Go Go.Ab Go.Proofs
set_option maxRecDepth 10000
set_option maxHeartbeats 4000000
open Go.ChangeShapes Go.WideShapes
def Peer.Ok (x:Peer):Prop:=OkU x.id ∧ OkH x.addr
theorem rd25 {H:Type} {enc:TypeId × Value → H} {w:World} {base:Nat} {spare:Nat → Bool} {held:Bool} {fuel:Nat} {cs:List Value} {x:DataW H × List MemPlace} (h:DataW.trod enc Tryz.prog w base spare held fuel 25 cs=some x):∃ a,Rd Tryz.prog w zah Peer.Ok cs a:=by
 obtain ⟨xs,n,rfl,rfl,hl,hxl,hf⟩:=DataW.trod_struct Tryz.underlying25 h
 have hc:cs.length=2:=hl.trans (by kernel_rfl)
 have hx:xs.length=2:=hxl
 match cs,hc with
 | [c0,c1],_=>
  match xs,hx with
  | [x0,x1],_=>
   have h0:DataW.trod enc Tryz.prog w base spare held n 22 [c0]=some x0:=hf 0 _ rfl
   obtain ⟨a0,d0,o0,k0⟩:=zAN Tryz.underlying22 h0
   have h1:DataW.trod enc Tryz.prog w base spare held n 23 [c1]=some x1:=hf 1 _ rfl
   obtain ⟨a1,d1,o1,k1⟩:=zMv Tryz.underlying23 h1
   refine ⟨⟨a0,a1⟩,(d0.append d1),fun c hc=>?_,k0,k1⟩
   have hc:c ∈ (vU a0).cells ++ ((vH a1).cells):=hc
   simp only [List.mem_append] at hc
   rcases hc with hc | hc
   ·exact o0 c hc
   ·exact o1 c hc
def Entry.Ok (x:Entry):Prop:=Peer.Ok x.peer ∧ OkI x.misses
theorem rd81 {H:Type} {enc:TypeId × Value → H} {w:World} {base:Nat} {spare:Nat → Bool} {held:Bool} {fuel:Nat} {cs:List Value} {x:DataW H × List MemPlace} (h:DataW.trod enc Tryz.prog w base spare held fuel 81 cs=some x):∃ a,Rd Tryz.prog w zai Entry.Ok cs a:=by
 obtain ⟨xs,n,rfl,rfl,hl,hxl,hf⟩:=DataW.trod_struct Tryz.underlying81 h
 have hc:cs.length=3:=hl.trans (by kernel_rfl)
 have hx:xs.length=2:=hxl
 match cs,hc with
 | [c0,c1,c2],_=>
  match xs,hx with
  | [x0,x1],_=>
   have h0:DataW.trod enc Tryz.prog w base spare held n 25 [c0,c1]=some x0:=hf 0 _ rfl
   obtain ⟨a0,d0,o0,k0⟩:=rd25 h0
   have h1:DataW.trod enc Tryz.prog w base spare held n 3 [c2]=some x1:=hf 1 _ rfl
   obtain ⟨a1,d1,o1,k1⟩:=zcR Tryz.underlying3 h1
   refine ⟨⟨a0,a1⟩,(d0.append d1),fun c hc=>?_,k0,k1⟩
   have hc:c ∈ (zah a0).cells ++ ((vI a1).cells):=hc
   simp only [List.mem_append] at hc
   rcases hc with hc | hc
   ·exact o0 c hc
   ·exact o1 c hc
def Finger.Ok (x:Finger):Prop:=OkI x.bit ∧ Peer.Ok x.peer
theorem rd84 {H:Type} {enc:TypeId × Value → H} {w:World} {base:Nat} {spare:Nat → Bool} {held:Bool} {fuel:Nat} {cs:List Value} {x:DataW H × List MemPlace} (h:DataW.trod enc Tryz.prog w base spare held fuel 84 cs=some x):∃ a,Rd Tryz.prog w zae Finger.Ok cs a:=by
 obtain ⟨xs,n,rfl,rfl,hl,hxl,hf⟩:=DataW.trod_struct Tryz.underlying84 h
 have hc:cs.length=3:=hl.trans (by kernel_rfl)
 have hx:xs.length=2:=hxl
 match cs,hc with
 | [c0,c1,c2],_=>
  match xs,hx with
  | [x0,x1],_=>
   have h0:DataW.trod enc Tryz.prog w base spare held n 3 [c0]=some x0:=hf 0 _ rfl
   obtain ⟨a0,d0,o0,k0⟩:=zcR Tryz.underlying3 h0
   have h1:DataW.trod enc Tryz.prog w base spare held n 25 [c1,c2]=some x1:=hf 1 _ rfl
   obtain ⟨a1,d1,o1,k1⟩:=rd25 h1
   refine ⟨⟨a0,a1⟩,(d0.append d1),fun c hc=>?_,k0,k1⟩
   have hc:c ∈ (vI a0).cells ++ ((zah a1).cells):=hc
   simp only [List.mem_append] at hc
   rcases hc with hc | hc
   ·exact o0 c hc
   ·exact o1 c hc
def Pair.Ok (x:Pair):Prop:=OkT x.key ∧ OkT x.val
theorem rd78 {H:Type} {enc:TypeId × Value → H} {w:World} {base:Nat} {spare:Nat → Bool} {held:Bool} {fuel:Nat} {cs:List Value} {x:DataW H × List MemPlace} (h:DataW.trod enc Tryz.prog w base spare held fuel 78 cs=some x):∃ a,Rd Tryz.prog w zan Pair.Ok cs a:=by
 obtain ⟨xs,n,rfl,rfl,hl,hxl,hf⟩:=DataW.trod_struct Tryz.underlying78 h
 have hc:cs.length=2:=hl.trans (by kernel_rfl)
 have hx:xs.length=2:=hxl
 match cs,hc with
 | [c0,c1],_=>
  match xs,hx with
  | [x0,x1],_=>
   have h0:DataW.trod enc Tryz.prog w base spare held n 9 [c0]=some x0:=hf 0 _ rfl
   obtain ⟨a0,d0,o0,k0⟩:=zgB Tryz.underlying9 h0
   have h1:DataW.trod enc Tryz.prog w base spare held n 9 [c1]=some x1:=hf 1 _ rfl
   obtain ⟨a1,d1,o1,k1⟩:=zgB Tryz.underlying9 h1
   refine ⟨⟨a0,a1⟩,(d0.append d1),fun c hc=>?_,k0,k1⟩
   have hc:c ∈ (vT a0).cells ++ ((vT a1).cells):=hc
   simp only [List.mem_append] at hc
   rcases hc with hc | hc
   ·exact o0 c hc
   ·exact o1 c hc
def Pend.Ok (x:Pend):Prop:=OkW x.rid ∧ OkI x.kind ∧ OkI x.why ∧ OkI x.job ∧ Peer.Ok x.to_ ∧ OkI x.due
theorem rd88 {H:Type} {enc:TypeId × Value → H} {w:World} {base:Nat} {spare:Nat → Bool} {held:Bool} {fuel:Nat} {cs:List Value} {x:DataW H × List MemPlace} (h:DataW.trod enc Tryz.prog w base spare held fuel 88 cs=some x):∃ a,Rd Tryz.prog w za4 Pend.Ok cs a:=by
 obtain ⟨xs,n,rfl,rfl,hl,hxl,hf⟩:=DataW.trod_struct Tryz.underlying88 h
 have hc:cs.length=7:=hl.trans (by kernel_rfl)
 have hx:xs.length=6:=hxl
 match cs,hc with
 | [c0,c1,c2,c3,c4,c5,c6],_=>
  match xs,hx with
  | [x0,x1,x2,x3,x4,x5],_=>
   have h0:DataW.trod enc Tryz.prog w base spare held n 32 [c0]=some x0:=hf 0 _ rfl
   obtain ⟨a0,d0,o0,k0⟩:=zAM Tryz.underlying32 h0
   have h1:DataW.trod enc Tryz.prog w base spare held n 3 [c1]=some x1:=hf 1 _ rfl
   obtain ⟨a1,d1,o1,k1⟩:=zcR Tryz.underlying3 h1
   have h2:DataW.trod enc Tryz.prog w base spare held n 3 [c2]=some x2:=hf 2 _ rfl
   obtain ⟨a2,d2,o2,k2⟩:=zcR Tryz.underlying3 h2
   have h3:DataW.trod enc Tryz.prog w base spare held n 3 [c3]=some x3:=hf 3 _ rfl
   obtain ⟨a3,d3,o3,k3⟩:=zcR Tryz.underlying3 h3
   have h4:DataW.trod enc Tryz.prog w base spare held n 25 [c4,c5]=some x4:=hf 4 _ rfl
   obtain ⟨a4,d4,o4,k4⟩:=rd25 h4
   have h5:DataW.trod enc Tryz.prog w base spare held n 3 [c6]=some x5:=hf 5 _ rfl
   obtain ⟨a5,d5,o5,k5⟩:=zcR Tryz.underlying3 h5
   refine ⟨⟨a0,a1,a2,a3,a4,a5⟩,(d0.append (d1.append (d2.append (d3.append (d4.append d5))))),fun c hc=>?_,k0,k1,k2,k3,k4,k5⟩
   have hc:c ∈ (vW a0).cells ++ ((vI a1).cells ++ ((vI a2).cells ++ ((vI a3).cells ++ ((zah a4).cells ++ ((vI a5).cells))))):=hc
   simp only [List.mem_append] at hc
   rcases hc with hc | hc | hc | hc | hc | hc
   ·exact o0 c hc
   ·exact o1 c hc
   ·exact o2 c hc
   ·exact o3 c hc
   ·exact o4 c hc
   ·exact o5 c hc
def Job.Ok (x:Job):Prop:=OkI x.id ∧ OkI x.kind ∧ OkI x.bit ∧ OkT x.key ∧ OkT x.val ∧ OkU x.target ∧ Peer.Ok x.via ∧ Peer.Ok x.at_ ∧ OkF x.doing ∧ OkI x.hops ∧ OkI x.tries ∧ OkI x.due
theorem rd67 {H:Type} {enc:TypeId × Value → H} {w:World} {base:Nat} {spare:Nat → Bool} {held:Bool} {fuel:Nat} {cs:List Value} {x:DataW H × List MemPlace} (h:DataW.trod enc Tryz.prog w base spare held fuel 67 cs=some x):∃ a,Rd Tryz.prog w eJob Job.Ok cs a:=by
 obtain ⟨xs,n,rfl,rfl,hl,hxl,hf⟩:=DataW.trod_struct Tryz.underlying67 h
 have hc:cs.length=14:=hl.trans (by kernel_rfl)
 have hx:xs.length=12:=hxl
 match cs,hc with
 | [c0,c1,c2,c3,c4,c5,c6,c7,c8,c9,c10,c11,c12,c13],_=>
  match xs,hx with
  | [x0,x1,x2,x3,x4,x5,x6,x7,x8,x9,x10,x11],_=>
   have h0:DataW.trod enc Tryz.prog w base spare held n 3 [c0]=some x0:=hf 0 _ rfl
   obtain ⟨a0,d0,o0,k0⟩:=zcR Tryz.underlying3 h0
   have h1:DataW.trod enc Tryz.prog w base spare held n 3 [c1]=some x1:=hf 1 _ rfl
   obtain ⟨a1,d1,o1,k1⟩:=zcR Tryz.underlying3 h1
   have h2:DataW.trod enc Tryz.prog w base spare held n 3 [c2]=some x2:=hf 2 _ rfl
   obtain ⟨a2,d2,o2,k2⟩:=zcR Tryz.underlying3 h2
   have h3:DataW.trod enc Tryz.prog w base spare held n 9 [c3]=some x3:=hf 3 _ rfl
   obtain ⟨a3,d3,o3,k3⟩:=zgB Tryz.underlying9 h3
   have h4:DataW.trod enc Tryz.prog w base spare held n 9 [c4]=some x4:=hf 4 _ rfl
   obtain ⟨a4,d4,o4,k4⟩:=zgB Tryz.underlying9 h4
   have h5:DataW.trod enc Tryz.prog w base spare held n 22 [c5]=some x5:=hf 5 _ rfl
   obtain ⟨a5,d5,o5,k5⟩:=zAN Tryz.underlying22 h5
   have h6:DataW.trod enc Tryz.prog w base spare held n 25 [c6,c7]=some x6:=hf 6 _ rfl
   obtain ⟨a6,d6,o6,k6⟩:=rd25 h6
   have h7:DataW.trod enc Tryz.prog w base spare held n 25 [c8,c9]=some x7:=hf 7 _ rfl
   obtain ⟨a7,d7,o7,k7⟩:=rd25 h7
   have h8:DataW.trod enc Tryz.prog w base spare held n 4 [c10]=some x8:=hf 8 _ rfl
   obtain ⟨a8,d8,o8,k8⟩:=zuL Tryz.underlying4 h8
   have h9:DataW.trod enc Tryz.prog w base spare held n 3 [c11]=some x9:=hf 9 _ rfl
   obtain ⟨a9,d9,o9,k9⟩:=zcR Tryz.underlying3 h9
   have h10:DataW.trod enc Tryz.prog w base spare held n 3 [c12]=some x10:=hf 10 _ rfl
   obtain ⟨a10,d10,o10,k10⟩:=zcR Tryz.underlying3 h10
   have h11:DataW.trod enc Tryz.prog w base spare held n 3 [c13]=some x11:=hf 11 _ rfl
   obtain ⟨a11,d11,o11,k11⟩:=zcR Tryz.underlying3 h11
   refine ⟨⟨a0,a1,a2,a3,a4,a5,a6,a7,a8,a9,a10,a11⟩,(d0.append (d1.append (d2.append (d3.append (d4.append (d5.append (d6.append (d7.append (d8.append (d9.append (d10.append d11))))))))))),fun c hc=>?_,k0,k1,k2,k3,k4,k5,k6,k7,k8,k9,k10,k11⟩
   have hc:c ∈ (vI a0).cells ++ ((vI a1).cells ++ ((vI a2).cells ++ ((vT a3).cells ++ ((vT a4).cells ++ ((vU a5).cells ++ ((zah a6).cells ++ ((zah a7).cells ++ ((vF a8).cells ++ ((vI a9).cells ++ ((vI a10).cells ++ ((vI a11).cells))))))))))):=hc
   simp only [List.mem_append] at hc
   rcases hc with hc | hc | hc | hc | hc | hc | hc | hc | hc | hc | hc | hc
   ·exact o0 c hc
   ·exact o1 c hc
   ·exact o2 c hc
   ·exact o3 c hc
   ·exact o4 c hc
   ·exact o5 c hc
   ·exact o6 c hc
   ·exact o7 c hc
   ·exact o8 c hc
   ·exact o9 c hc
   ·exact o10 c hc
   ·exact o11 c hc
def Result.Ok (x:Result):Prop:=OkI x.job ∧ OkI x.kind ∧ OkT x.key ∧ OkT x.val ∧ OkF x.has ∧ OkI x.err
theorem rd60 {H:Type} {enc:TypeId × Value → H} {w:World} {base:Nat} {spare:Nat → Bool} {held:Bool} {fuel:Nat} {cs:List Value} {x:DataW H × List MemPlace} (h:DataW.trod enc Tryz.prog w base spare held fuel 60 cs=some x):∃ a,Rd Tryz.prog w zaq Result.Ok cs a:=by
 obtain ⟨xs,n,rfl,rfl,hl,hxl,hf⟩:=DataW.trod_struct Tryz.underlying60 h
 have hc:cs.length=6:=hl.trans (by kernel_rfl)
 have hx:xs.length=6:=hxl
 match cs,hc with
 | [c0,c1,c2,c3,c4,c5],_=>
  match xs,hx with
  | [x0,x1,x2,x3,x4,x5],_=>
   have h0:DataW.trod enc Tryz.prog w base spare held n 3 [c0]=some x0:=hf 0 _ rfl
   obtain ⟨a0,d0,o0,k0⟩:=zcR Tryz.underlying3 h0
   have h1:DataW.trod enc Tryz.prog w base spare held n 3 [c1]=some x1:=hf 1 _ rfl
   obtain ⟨a1,d1,o1,k1⟩:=zcR Tryz.underlying3 h1
   have h2:DataW.trod enc Tryz.prog w base spare held n 9 [c2]=some x2:=hf 2 _ rfl
   obtain ⟨a2,d2,o2,k2⟩:=zgB Tryz.underlying9 h2
   have h3:DataW.trod enc Tryz.prog w base spare held n 9 [c3]=some x3:=hf 3 _ rfl
   obtain ⟨a3,d3,o3,k3⟩:=zgB Tryz.underlying9 h3
   have h4:DataW.trod enc Tryz.prog w base spare held n 4 [c4]=some x4:=hf 4 _ rfl
   obtain ⟨a4,d4,o4,k4⟩:=zuL Tryz.underlying4 h4
   have h5:DataW.trod enc Tryz.prog w base spare held n 49 [c5]=some x5:=hf 5 _ rfl
   obtain ⟨a5,d5,o5,k5⟩:=zcR Tryz.underlying49 h5
   refine ⟨⟨a0,a1,a2,a3,a4,a5⟩,(d0.append (d1.append (d2.append (d3.append (d4.append d5))))),fun c hc=>?_,k0,k1,k2,k3,k4,k5⟩
   have hc:c ∈ (vI a0).cells ++ ((vI a1).cells ++ ((vT a2).cells ++ ((vT a3).cells ++ ((vF a4).cells ++ ((vI a5).cells))))):=hc
   simp only [List.mem_append] at hc
   rcases hc with hc | hc | hc | hc | hc | hc
   ·exact o0 c hc
   ·exact o1 c hc
   ·exact o2 c hc
   ·exact o3 c hc
   ·exact o4 c hc
   ·exact o5 c hc
theorem rd26 {H:Type} {enc:TypeId × Value → H} {w:World} {base:Nat} {spare:Nat → Bool} {held:Bool} {fuel:Nat} {cs:List Value} {x:DataW H × List MemPlace} (h:DataW.trod enc Tryz.prog w base spare held fuel 26 cs=some x):∃ l,Rd Tryz.prog w (eL 81 zai) (OkL Entry.Ok) cs l:=
 zl0 (size:=3) Tryz.underlying26 (by kernel_rfl) (by omega) (fun a=>rfl) h (fun n cs' y _ hy=>rd81 hy)
theorem rd27 {H:Type} {enc:TypeId × Value → H} {w:World} {base:Nat} {spare:Nat → Bool} {held:Bool} {fuel:Nat} {cs:List Value} {x:DataW H × List MemPlace} (h:DataW.trod enc Tryz.prog w base spare held fuel 27 cs=some x):∃ l,Rd Tryz.prog w (eL 84 zae) (OkL Finger.Ok) cs l:=
 zl0 (size:=3) Tryz.underlying27 (by kernel_rfl) (by omega) (fun a=>rfl) h (fun n cs' y _ hy=>rd84 hy)
theorem rd28 {H:Type} {enc:TypeId × Value → H} {w:World} {base:Nat} {spare:Nat → Bool} {held:Bool} {fuel:Nat} {cs:List Value} {x:DataW H × List MemPlace} (h:DataW.trod enc Tryz.prog w base spare held fuel 28 cs=some x):∃ l,Rd Tryz.prog w (eL 78 zan) (OkL Pair.Ok) cs l:=
 zl0 (size:=2) Tryz.underlying28 (by kernel_rfl) (by omega) (fun a=>rfl) h (fun n cs' y _ hy=>rd78 hy)
theorem rd29 {H:Type} {enc:TypeId × Value → H} {w:World} {base:Nat} {spare:Nat → Bool} {held:Bool} {fuel:Nat} {cs:List Value} {x:DataW H × List MemPlace} (h:DataW.trod enc Tryz.prog w base spare held fuel 29 cs=some x):∃ l,Rd Tryz.prog w (eL 88 za4) (OkL Pend.Ok) cs l:=
 zl0 (size:=7) Tryz.underlying29 (by kernel_rfl) (by omega) (fun a=>rfl) h (fun n cs' y _ hy=>rd88 hy)
theorem rd30 {H:Type} {enc:TypeId × Value → H} {w:World} {base:Nat} {spare:Nat → Bool} {held:Bool} {fuel:Nat} {cs:List Value} {x:DataW H × List MemPlace} (h:DataW.trod enc Tryz.prog w base spare held fuel 30 cs=some x):∃ l,Rd Tryz.prog w (eL 67 eJob) (OkL Job.Ok) cs l:=
 zl0 (size:=14) Tryz.underlying30 (by kernel_rfl) (by omega) (fun a=>rfl) h (fun n cs' y _ hy=>rd67 hy)
theorem rd31 {H:Type} {enc:TypeId × Value → H} {w:World} {base:Nat} {spare:Nat → Bool} {held:Bool} {fuel:Nat} {cs:List Value} {x:DataW H × List MemPlace} (h:DataW.trod enc Tryz.prog w base spare held fuel 31 cs=some x):∃ l,Rd Tryz.prog w (eL 60 zaq) (OkL Result.Ok) cs l:=
 zl0 (size:=6) Tryz.underlying31 (by kernel_rfl) (by omega) (fun a=>rfl) h (fun n cs' y _ hy=>rd60 hy)
def Node.Ok (x:Node):Prop:=Peer.Ok x.me ∧ OkI x.clock ∧ OkF x.joined ∧ (OkL Entry.Ok) x.pred ∧ (OkL Entry.Ok) x.list ∧ (OkL Finger.Ok) x.fingers ∧ (OkL Pair.Ok) x.store ∧ (OkL Pend.Ok) x.pends ∧ (OkL Job.Ok) x.jobs ∧ (OkL Result.Ok) x.results ∧ OkW x.rid ∧ OkI x.jobID ∧ OkI x.nextBit
theorem rd34 {H:Type} {enc:TypeId × Value → H} {w:World} {base:Nat} {spare:Nat → Bool} {held:Bool} {fuel:Nat} {cs:List Value} {x:DataW H × List MemPlace} (h:DataW.trod enc Tryz.prog w base spare held fuel 34 cs=some x):∃ a,Rd Tryz.prog w zaP Node.Ok cs a:=by
 obtain ⟨xs,n,rfl,rfl,hl,hxl,hf⟩:=DataW.trod_struct Tryz.underlying34 h
 have hc:cs.length=14:=hl.trans (by kernel_rfl)
 have hx:xs.length=13:=hxl
 match cs,hc with
 | [c0,c1,c2,c3,c4,c5,c6,c7,c8,c9,c10,c11,c12,c13],_=>
  match xs,hx with
  | [x0,x1,x2,x3,x4,x5,x6,x7,x8,x9,x10,x11,x12],_=>
   have h0:DataW.trod enc Tryz.prog w base spare held n 25 [c0,c1]=some x0:=hf 0 _ rfl
   obtain ⟨a0,d0,o0,k0⟩:=rd25 h0
   have h1:DataW.trod enc Tryz.prog w base spare held n 3 [c2]=some x1:=hf 1 _ rfl
   obtain ⟨a1,d1,o1,k1⟩:=zcR Tryz.underlying3 h1
   have h2:DataW.trod enc Tryz.prog w base spare held n 4 [c3]=some x2:=hf 2 _ rfl
   obtain ⟨a2,d2,o2,k2⟩:=zuL Tryz.underlying4 h2
   have h3:DataW.trod enc Tryz.prog w base spare held n 26 [c4]=some x3:=hf 3 _ rfl
   obtain ⟨a3,d3,o3,k3⟩:=rd26 h3
   have h4:DataW.trod enc Tryz.prog w base spare held n 26 [c5]=some x4:=hf 4 _ rfl
   obtain ⟨a4,d4,o4,k4⟩:=rd26 h4
   have h5:DataW.trod enc Tryz.prog w base spare held n 27 [c6]=some x5:=hf 5 _ rfl
   obtain ⟨a5,d5,o5,k5⟩:=rd27 h5
   have h6:DataW.trod enc Tryz.prog w base spare held n 28 [c7]=some x6:=hf 6 _ rfl
   obtain ⟨a6,d6,o6,k6⟩:=rd28 h6
   have h7:DataW.trod enc Tryz.prog w base spare held n 29 [c8]=some x7:=hf 7 _ rfl
   obtain ⟨a7,d7,o7,k7⟩:=rd29 h7
   have h8:DataW.trod enc Tryz.prog w base spare held n 30 [c9]=some x8:=hf 8 _ rfl
   obtain ⟨a8,d8,o8,k8⟩:=rd30 h8
   have h9:DataW.trod enc Tryz.prog w base spare held n 31 [c10]=some x9:=hf 9 _ rfl
   obtain ⟨a9,d9,o9,k9⟩:=rd31 h9
   have h10:DataW.trod enc Tryz.prog w base spare held n 32 [c11]=some x10:=hf 10 _ rfl
   obtain ⟨a10,d10,o10,k10⟩:=zAM Tryz.underlying32 h10
   have h11:DataW.trod enc Tryz.prog w base spare held n 3 [c12]=some x11:=hf 11 _ rfl
   obtain ⟨a11,d11,o11,k11⟩:=zcR Tryz.underlying3 h11
   have h12:DataW.trod enc Tryz.prog w base spare held n 3 [c13]=some x12:=hf 12 _ rfl
   obtain ⟨a12,d12,o12,k12⟩:=zcR Tryz.underlying3 h12
   refine ⟨⟨a0,a1,a2,a3,a4,a5,a6,a7,a8,a9,a10,a11,a12⟩,(d0.append (d1.append (d2.append (d3.append (d4.append (d5.append (d6.append (d7.append (d8.append (d9.append (d10.append (d11.append d12)))))))))))),fun c hc=>?_,k0,k1,k2,k3,k4,k5,k6,k7,k8,k9,k10,k11,k12⟩
   have hc:c ∈ (zah a0).cells ++ ((vI a1).cells ++ ((vF a2).cells ++ (((eL 81 zai) a3).cells ++ (((eL 81 zai) a4).cells ++ (((eL 84 zae) a5).cells ++ (((eL 78 zan) a6).cells ++ (((eL 88 za4) a7).cells ++ (((eL 67 eJob) a8).cells ++ (((eL 60 zaq) a9).cells ++ ((vW a10).cells ++ ((vI a11).cells ++ ((vI a12).cells)))))))))))):=hc
   simp only [List.mem_append] at hc
   rcases hc with hc | hc | hc | hc | hc | hc | hc | hc | hc | hc | hc | hc | hc
   ·exact o0 c hc
   ·exact o1 c hc
   ·exact o2 c hc
   ·exact o3 c hc
   ·exact o4 c hc
   ·exact o5 c hc
   ·exact o6 c hc
   ·exact o7 c hc
   ·exact o8 c hc
   ·exact o9 c hc
   ·exact o10 c hc
   ·exact o11 c hc
   ·exact o12 c hc
theorem arg34 {H:Type} {enc:TypeId × Value → H} {w:World} {base:Nat} {spare:Nat → Bool} {held:Bool} {r:Reach} {b0:Nat} {v:Value} {d:DataW H} {ps:List MemPlace} (hval:Value.okWide Tryz.prog w r b0 34 v) (h:DataW.Trod enc Tryz.prog w base spare held 34 v d ps):∃ a,DL Tryz.prog w (fun _=>False) [zaP a] [v] ∧ Node.Ok a:=
 zvW (fun _=>⟨_,rfl⟩) Tryz.underlying34 hval (let ⟨_,hf⟩:=h;rd34 hf)
theorem rd35 {H:Type} {enc:TypeId × Value → H} {w:World} {base:Nat} {spare:Nat → Bool} {held:Bool} {fuel:Nat} {cs:List Value} {x:DataW H × List MemPlace} (h:DataW.trod enc Tryz.prog w base spare held fuel 35 cs=some x):∃ l,Rd Tryz.prog w (eL 25 zah) (OkL Peer.Ok) cs l:=
 zl0 (size:=2) Tryz.underlying35 (by kernel_rfl) (by omega) (fun a=>rfl) h (fun n cs' y _ hy=>rd25 hy)
def Msg.Ok (x:Msg):Prop:=OkI x.kind ∧ OkW x.rid ∧ OkB x.code ∧ OkF x.has ∧ OkU x.id ∧ OkT x.key ∧ OkT x.val ∧ Peer.Ok x.peer ∧ (OkL Peer.Ok) x.peers ∧ (OkL Pair.Ok) x.pairs
theorem rd37 {H:Type} {enc:TypeId × Value → H} {w:World} {base:Nat} {spare:Nat → Bool} {held:Bool} {fuel:Nat} {cs:List Value} {x:DataW H × List MemPlace} (h:DataW.trod enc Tryz.prog w base spare held fuel 37 cs=some x):∃ a,Rd Tryz.prog w eMsg Msg.Ok cs a:=by
 obtain ⟨xs,n,rfl,rfl,hl,hxl,hf⟩:=DataW.trod_struct Tryz.underlying37 h
 have hc:cs.length=11:=hl.trans (by kernel_rfl)
 have hx:xs.length=10:=hxl
 match cs,hc with
 | [c0,c1,c2,c3,c4,c5,c6,c7,c8,c9,c10],_=>
  match xs,hx with
  | [x0,x1,x2,x3,x4,x5,x6,x7,x8,x9],_=>
   have h0:DataW.trod enc Tryz.prog w base spare held n 3 [c0]=some x0:=hf 0 _ rfl
   obtain ⟨a0,d0,o0,k0⟩:=zcR Tryz.underlying3 h0
   have h1:DataW.trod enc Tryz.prog w base spare held n 32 [c1]=some x1:=hf 1 _ rfl
   obtain ⟨a1,d1,o1,k1⟩:=zAM Tryz.underlying32 h1
   have h2:DataW.trod enc Tryz.prog w base spare held n 5 [c2]=some x2:=hf 2 _ rfl
   obtain ⟨a2,d2,o2,k2⟩:=rd_u8 Tryz.underlying5 h2
   have h3:DataW.trod enc Tryz.prog w base spare held n 4 [c3]=some x3:=hf 3 _ rfl
   obtain ⟨a3,d3,o3,k3⟩:=zuL Tryz.underlying4 h3
   have h4:DataW.trod enc Tryz.prog w base spare held n 22 [c4]=some x4:=hf 4 _ rfl
   obtain ⟨a4,d4,o4,k4⟩:=zAN Tryz.underlying22 h4
   have h5:DataW.trod enc Tryz.prog w base spare held n 9 [c5]=some x5:=hf 5 _ rfl
   obtain ⟨a5,d5,o5,k5⟩:=zgB Tryz.underlying9 h5
   have h6:DataW.trod enc Tryz.prog w base spare held n 9 [c6]=some x6:=hf 6 _ rfl
   obtain ⟨a6,d6,o6,k6⟩:=zgB Tryz.underlying9 h6
   have h7:DataW.trod enc Tryz.prog w base spare held n 25 [c7,c8]=some x7:=hf 7 _ rfl
   obtain ⟨a7,d7,o7,k7⟩:=rd25 h7
   have h8:DataW.trod enc Tryz.prog w base spare held n 35 [c9]=some x8:=hf 8 _ rfl
   obtain ⟨a8,d8,o8,k8⟩:=rd35 h8
   have h9:DataW.trod enc Tryz.prog w base spare held n 28 [c10]=some x9:=hf 9 _ rfl
   obtain ⟨a9,d9,o9,k9⟩:=rd28 h9
   refine ⟨⟨a0,a1,a2,a3,a4,a5,a6,a7,a8,a9⟩,(d0.append (d1.append (d2.append (d3.append (d4.append (d5.append (d6.append (d7.append (d8.append d9))))))))),fun c hc=>?_,k0,k1,k2,k3,k4,k5,k6,k7,k8,k9⟩
   have hc:c ∈ (vI a0).cells ++ ((vW a1).cells ++ ((vB a2).cells ++ ((vF a3).cells ++ ((vU a4).cells ++ ((vT a5).cells ++ ((vT a6).cells ++ ((zah a7).cells ++ (((eL 25 zah) a8).cells ++ (((eL 78 zan) a9).cells))))))))):=hc
   simp only [List.mem_append] at hc
   rcases hc with hc | hc | hc | hc | hc | hc | hc | hc | hc | hc
   ·exact o0 c hc
   ·exact o1 c hc
   ·exact o2 c hc
   ·exact o3 c hc
   ·exact o4 c hc
   ·exact o5 c hc
   ·exact o6 c hc
   ·exact o7 c hc
   ·exact o8 c hc
   ·exact o9 c hc
theorem arg37 {H:Type} {enc:TypeId × Value → H} {w:World} {base:Nat} {spare:Nat → Bool} {held:Bool} {r:Reach} {b0:Nat} {v:Value} {d:DataW H} {ps:List MemPlace} (hval:Value.okWide Tryz.prog w r b0 37 v) (h:DataW.Trod enc Tryz.prog w base spare held 37 v d ps):∃ a,DL Tryz.prog w (fun _=>False) [eMsg a] [v] ∧ Msg.Ok a:=
 zvW (fun _=>⟨_,rfl⟩) Tryz.underlying37 hval (let ⟨_,hf⟩:=h;rd37 hf)
end Go.Ab.Tryz
