/- Our texts for this statement, merged: what its theorem leads to. -/
import Derived.Test.YtjmmobicnfojeaaGreatDoorChecked
import Derived.Test.YtjmmobicnfojeaaGreatDoorQWb4
import Derived.Test.YtjmmobicnfojeaaGreatDoorQWb5
import Derived.Test.YtjmmobicnfojeaaGreatDoorQWb6
import Derived.Test.YtjmmobicnfojeaaGreatDoorQWb7
import Derived.Test.YtjmmobicnfojeaaGreatDoorQWb8
set_option linter.unusedVariables false
set_option linter.unusedSimpArgs false
noncomputable section
namespace Go.Ab.Tryz
open Go Go.Ab Go.Proofs
set_option maxHeartbeats 4000000
def F:FuncId → Option Fn
 | 6=>some g6
 | 7=>some g7
 | 8=>some g8
 | 11=>some g11
 | 14=>some g14
 | 17=>some g17
 | 18=>some g18
 | 19=>some g19
 | 20=>some g20
 | 21=>some g21
 | 22=>some g22
 | 23=>some g23
 | 24=>some g24
 | 25=>some g25
 | 26=>some g26
 | 27=>some g27
 | 28=>some g28
 | 29=>some g29
 | 30=>some g30
 | 31=>some g31
 | 32=>some g32
 | 33=>some g33
 | 34=>some g34
 | 41=>some g41
 | 42=>some g42
 | 63=>some g63
 | 68=>some g68
 | 69=>some g69
 | 70=>some g70
 | 71=>some g71
 | 72=>some g72
 | 73=>some g73
 | 74=>some g74
 | 75=>some g75
 | 76=>some g76
 | 77=>some g77
 | 78=>some g78
 | 80=>some g80
 | 82=>some g82
 | 83=>some g83
 | 84=>some g84
 | 85=>some g85
 | 86=>some g86
 | 87=>some g87
 | 88=>some g88
 | 89=>some g89
 | 90=>some g90
 | 91=>some g91
 | 92=>some g92
 | 93=>some g93
 | 94=>some g94
 | 95=>some g95
 | 96=>some g96
 | 97=>some g97
 | 109=>some g109
 | 110=>some g110
 | 111=>some g111
 | 112=>some g112
 | 115=>some g115
 | 116=>some g116
 | 117=>some g117
 | 118=>some g118
 | 120=>some g120
 | 124=>some g124
 | 128=>some g128
 | 132=>some g132
 | 134=>some g134
 | 135=>some g135
 | 139=>some g139
 | 140=>some g140
 | 141=>some g141
 | 142=>some g142
 | 143=>some g143
 | 145=>some g145
 | 146=>some g146
 | 147=>some g147
 | 149=>some g149
 | 150=>some g150
 | 151=>some g151
 | 152=>some g152
 | 153=>some g153
 | 154=>some g154
 | 155=>some g155
 | 156=>some g156
 | 157=>some g157
 | 158=>some g158
 | 159=>some g159
 | 160=>some g160
 | 161=>some g161
 | 162=>some g162
 | 163=>some g163
 | 166=>some g166
 | 174=>some g174
 | 175=>some g175
 | 176=>some g176
 | 177=>some g177
 | 178=>some g178
 | 180=>some g180
 | 181=>some g181
 | 182=>some g182
 | 183=>some g183
 | 184=>some g184
 | 185=>some g185
 | 190=>some g190
 | 191=>some g191
 | 192=>some g192
 | 200=>some g200
 | 201=>some g201
 | 202=>some g202
 | 207=>some g207
 | 208=>some g208
 | 209=>some g209
 | 210=>some g210
 | 211=>some g211
 | 212=>some g212
 | 213=>some g213
 | 214=>some g214
 | 215=>some g215
 | 216=>some g216
 | 217=>some g217
 | 218=>some g218
 | 219=>some g219
 | 220=>some g220
 | 221=>some g221
 | 233=>some g233
 | 234=>some g234
 | 235=>some g235
 | _=>none
theorem F_ok:∀ f fn,F f=some fn → ∃ md fz,zag Tryz.prog md fz f=some fn:=by
 intro f fn h
 unfold F at h
 split at h
 ·cases h;exact ⟨_,_,cmp6⟩
 ·cases h;exact ⟨_,_,cmp7⟩
 ·cases h;exact ⟨_,_,cmp8⟩
 ·cases h;exact ⟨_,_,cmp11⟩
 ·cases h;exact ⟨_,_,cmp14⟩
 ·cases h;exact ⟨_,_,cmp17⟩
 ·cases h;exact ⟨_,_,cmp18⟩
 ·cases h;exact ⟨_,_,cmp19⟩
 ·cases h;exact ⟨_,_,cmp20⟩
 ·cases h;exact ⟨_,_,cmp21⟩
 ·cases h;exact ⟨_,_,cmp22⟩
 ·cases h;exact ⟨_,_,cmp23⟩
 ·cases h;exact ⟨_,_,cmp24⟩
 ·cases h;exact ⟨_,_,cmp25⟩
 ·cases h;exact ⟨_,_,cmp26⟩
 ·cases h;exact ⟨_,_,cmp27⟩
 ·cases h;exact ⟨_,_,cmp28⟩
 ·cases h;exact ⟨_,_,cmp29⟩
 ·cases h;exact ⟨_,_,cmp30⟩
 ·cases h;exact ⟨_,_,cmp31⟩
 ·cases h;exact ⟨_,_,cmp32⟩
 ·cases h;exact ⟨_,_,cmp33⟩
 ·cases h;exact ⟨_,_,cmp34⟩
 ·cases h;exact ⟨_,_,cmp41⟩
 ·cases h;exact ⟨_,_,cmp42⟩
 ·cases h;exact ⟨_,_,cmp63⟩
 ·cases h;exact ⟨_,_,cmp68⟩
 ·cases h;exact ⟨_,_,cmp69⟩
 ·cases h;exact ⟨_,_,cmp70⟩
 ·cases h;exact ⟨_,_,cmp71⟩
 ·cases h;exact ⟨_,_,cmp72⟩
 ·cases h;exact ⟨_,_,cmp73⟩
 ·cases h;exact ⟨_,_,cmp74⟩
 ·cases h;exact ⟨_,_,cmp75⟩
 ·cases h;exact ⟨_,_,cmp76⟩
 ·cases h;exact ⟨_,_,cmp77⟩
 ·cases h;exact ⟨_,_,cmp78⟩
 ·cases h;exact ⟨_,_,cmp80⟩
 ·cases h;exact ⟨_,_,cmp82⟩
 ·cases h;exact ⟨_,_,cmp83⟩
 ·cases h;exact ⟨_,_,cmp84⟩
 ·cases h;exact ⟨_,_,cmp85⟩
 ·cases h;exact ⟨_,_,cmp86⟩
 ·cases h;exact ⟨_,_,cmp87⟩
 ·cases h;exact ⟨_,_,cmp88⟩
 ·cases h;exact ⟨_,_,cmp89⟩
 ·cases h;exact ⟨_,_,cmp90⟩
 ·cases h;exact ⟨_,_,cmp91⟩
 ·cases h;exact ⟨_,_,cmp92⟩
 ·cases h;exact ⟨_,_,cmp93⟩
 ·cases h;exact ⟨_,_,cmp94⟩
 ·cases h;exact ⟨_,_,cmp95⟩
 ·cases h;exact ⟨_,_,cmp96⟩
 ·cases h;exact ⟨_,_,cmp97⟩
 ·cases h;exact ⟨_,_,zJU⟩
 ·cases h;exact ⟨_,_,zJV⟩
 ·cases h;exact ⟨_,_,zJW⟩
 ·cases h;exact ⟨_,_,zJX⟩
 ·cases h;exact ⟨_,_,zJY⟩
 ·cases h;exact ⟨_,_,zJZ⟩
 ·cases h;exact ⟨_,_,zJ0⟩
 ·cases h;exact ⟨_,_,zJ1⟩
 ·cases h;exact ⟨_,_,zJ2⟩
 ·cases h;exact ⟨_,_,zJ3⟩
 ·cases h;exact ⟨_,_,zJ4⟩
 ·cases h;exact ⟨_,_,zJ5⟩
 ·cases h;exact ⟨_,_,zJ6⟩
 ·cases h;exact ⟨_,_,zJ7⟩
 ·cases h;exact ⟨_,_,zJ8⟩
 ·cases h;exact ⟨_,_,zJ9⟩
 ·cases h;exact ⟨_,_,zKa⟩
 ·cases h;exact ⟨_,_,zKb⟩
 ·cases h;exact ⟨_,_,zKc⟩
 ·cases h;exact ⟨_,_,zKd⟩
 ·cases h;exact ⟨_,_,zKe⟩
 ·cases h;exact ⟨_,_,zKf⟩
 ·cases h;exact ⟨_,_,zKg⟩
 ·cases h;exact ⟨_,_,zKh⟩
 ·cases h;exact ⟨_,_,zKi⟩
 ·cases h;exact ⟨_,_,zKj⟩
 ·cases h;exact ⟨_,_,zKk⟩
 ·cases h;exact ⟨_,_,zKl⟩
 ·cases h;exact ⟨_,_,zKm⟩
 ·cases h;exact ⟨_,_,zKn⟩
 ·cases h;exact ⟨_,_,zKo⟩
 ·cases h;exact ⟨_,_,zKp⟩
 ·cases h;exact ⟨_,_,zKq⟩
 ·cases h;exact ⟨_,_,zKr⟩
 ·cases h;exact ⟨_,_,zKs⟩
 ·cases h;exact ⟨_,_,zKt⟩
 ·cases h;exact ⟨_,_,zKu⟩
 ·cases h;exact ⟨_,_,zKv⟩
 ·cases h;exact ⟨_,_,zKw⟩
 ·cases h;exact ⟨_,_,zKx⟩
 ·cases h;exact ⟨_,_,zKy⟩
 ·cases h;exact ⟨_,_,zKz⟩
 ·cases h;exact ⟨_,_,zKA⟩
 ·cases h;exact ⟨_,_,zKB⟩
 ·cases h;exact ⟨_,_,zKC⟩
 ·cases h;exact ⟨_,_,zKD⟩
 ·cases h;exact ⟨_,_,zKE⟩
 ·cases h;exact ⟨_,_,zKF⟩
 ·cases h;exact ⟨_,_,zKG⟩
 ·cases h;exact ⟨_,_,zKH⟩
 ·cases h;exact ⟨_,_,zKI⟩
 ·cases h;exact ⟨_,_,zKJ⟩
 ·cases h;exact ⟨_,_,zKK⟩
 ·cases h;exact ⟨_,_,zKL⟩
 ·cases h;exact ⟨_,_,zKM⟩
 ·cases h;exact ⟨_,_,zKN⟩
 ·cases h;exact ⟨_,_,zKO⟩
 ·cases h;exact ⟨_,_,zKP⟩
 ·cases h;exact ⟨_,_,zKQ⟩
 ·cases h;exact ⟨_,_,zKR⟩
 ·cases h;exact ⟨_,_,zKS⟩
 ·cases h;exact ⟨_,_,zKT⟩
 ·cases h;exact ⟨_,_,zKU⟩
 ·cases h;exact ⟨_,_,zKV⟩
 ·cases h;exact ⟨_,_,zKW⟩
 ·cases h;exact ⟨_,_,zKX⟩
 ·cases h;exact ⟨_,_,zKY⟩
 ·cases h;exact ⟨_,_,zKZ⟩
 ·cases h;exact ⟨_,_,zK0⟩
 ·cases h;exact ⟨_,_,zK1⟩
 ·cases h;exact ⟨_,_,zK4⟩
 ·cases h;exact ⟨_,_,zK5⟩
 ·cases h;exact ⟨_,_,zK6⟩
 ·cases h
end Go.Ab.Tryz
namespace Go.Ab.Tryz
open Go Go.Ab Go.Proofs
set_option maxRecDepth 10000
set_option maxHeartbeats 4000000
structure Peer where
 id:Int
 addr:Int
 deriving DecidableEq
def zai (x:Peer):AV:=.agg [vU x.id,vH x.addr]
theorem Peer.ext' {a b:Peer}:a=b ↔ a.id=b.id ∧ a.addr=b.addr:=by cases a;cases b;simp
instance :Inj zai:=⟨fun a b h=>by
 obtain ⟨_,_⟩:=a;obtain ⟨_,_⟩:=b
 simp only [zai,AV.agg.injEq,List.cons.injEq,AV.sc.injEq,Value.int.injEq,Value.bool.injEq,Value.string.injEq,AV.lit.injEq,zdk,and_true,true_and,and_assoc] at h
 simp only [Peer.mk.injEq,and_assoc];simpa only [Peer.mk.injEq,and_assoc] using h⟩
theorem zEK {a b:Peer}:zai a=zai b ↔ a=b:=⟨Inj.inj a b,fun h=>by rw [h]⟩
structure Entry where
 peer:Peer
 misses:Int
 deriving DecidableEq
def zat (x:Entry):AV:=.agg [vU x.peer.id,vH x.peer.addr,vI x.misses]
theorem Entry.ext' {a b:Entry}:a=b ↔ a.peer=b.peer ∧ a.misses=b.misses:=by cases a;cases b;simp
instance :Inj zat:=⟨fun a b h=>by
 obtain ⟨⟨_,_⟩,_⟩:=a;obtain ⟨⟨_,_⟩,_⟩:=b
 simp only [zat,AV.agg.injEq,List.cons.injEq,AV.sc.injEq,Value.int.injEq,Value.bool.injEq,Value.string.injEq,AV.lit.injEq,zdk,and_true,true_and,and_assoc] at h
 simp_all⟩
theorem zCB {a b:Entry}:zat a=zat b ↔ a=b:=⟨Inj.inj a b,fun h=>by rw [h]⟩
structure Finger where
 bit:Int
 peer:Peer
 deriving DecidableEq
def zae (x:Finger):AV:=.agg [vI x.bit,vU x.peer.id,vH x.peer.addr]
theorem Finger.ext' {a b:Finger}:a=b ↔ a.bit=b.bit ∧ a.peer=b.peer:=by cases a;cases b;simp
instance :Inj zae:=⟨fun a b h=>by
 obtain ⟨_,⟨_,_⟩⟩:=a;obtain ⟨_,⟨_,_⟩⟩:=b
 simp only [zae,AV.agg.injEq,List.cons.injEq,AV.sc.injEq,Value.int.injEq,Value.bool.injEq,Value.string.injEq,AV.lit.injEq,zdk,and_true,true_and,and_assoc] at h
 simp_all⟩
theorem zAs {a b:Finger}:zae a=zae b ↔ a=b:=⟨Inj.inj a b,fun h=>by rw [h]⟩
structure Pair where
 key:ByteArray
 val:ByteArray
 deriving DecidableEq
def zan (x:Pair):AV:=.agg [vT x.key,vT x.val]
theorem Pair.ext' {a b:Pair}:a=b ↔ a.key=b.key ∧ a.val=b.val:=by cases a;cases b;simp
instance :Inj zan:=⟨fun a b h=>by
 obtain ⟨_,_⟩:=a;obtain ⟨_,_⟩:=b
 simp only [zan,AV.agg.injEq,List.cons.injEq,AV.sc.injEq,Value.int.injEq,Value.bool.injEq,Value.string.injEq,AV.lit.injEq,zdk,and_true,true_and,and_assoc] at h
 simp only [Pair.mk.injEq,and_assoc];simpa only [Pair.mk.injEq,and_assoc] using h⟩
theorem zEJ {a b:Pair}:zan a=zan b ↔ a=b:=⟨Inj.inj a b,fun h=>by rw [h]⟩
structure Pend where
 rid:Int
 kind:Int
 why:Int
 job:Int
 to_:Peer
 due:Int
 deriving DecidableEq
def zaX (x:Pend):AV:=.agg [vW x.rid,vI x.kind,vI x.why,vI x.job,vU x.to_.id,vH x.to_.addr,vI x.due]
theorem Pend.ext' {a b:Pend}:a=b ↔ a.rid=b.rid ∧ a.kind=b.kind ∧ a.why=b.why ∧ a.job=b.job ∧ a.to_=b.to_ ∧ a.due=b.due:=by cases a;cases b;simp
instance :Inj zaX:=⟨fun a b h=>by
 obtain ⟨_,_,_,_,⟨_,_⟩,_⟩:=a;obtain ⟨_,_,_,_,⟨_,_⟩,_⟩:=b
 simp only [zaX,AV.agg.injEq,List.cons.injEq,AV.sc.injEq,Value.int.injEq,Value.bool.injEq,Value.string.injEq,AV.lit.injEq,zdk,and_true,true_and,and_assoc] at h
 simp_all⟩
theorem zEL {a b:Pend}:zaX a=zaX b ↔ a=b:=⟨Inj.inj a b,fun h=>by rw [h]⟩
structure Job where
 id:Int
 kind:Int
 bit:Int
 key:ByteArray
 val:ByteArray
 target:Int
 via:Peer
 at_:Peer
 doing:Bool
 hops:Int
 tries:Int
 due:Int
 deriving DecidableEq
def eJob (x:Job):AV:=.agg [vI x.id,vI x.kind,vI x.bit,vT x.key,vT x.val,vU x.target,vU x.via.id,vH x.via.addr,vU x.at_.id,vH x.at_.addr,vF x.doing,vI x.hops,vI x.tries,vI x.due]
theorem Job.ext' {a b:Job}:a=b ↔ a.id=b.id ∧ a.kind=b.kind ∧ a.bit=b.bit ∧ a.key=b.key ∧ a.val=b.val ∧ a.target=b.target ∧ a.via=b.via ∧ a.at_=b.at_ ∧ a.doing=b.doing ∧ a.hops=b.hops ∧ a.tries=b.tries ∧ a.due=b.due:=by cases a;cases b;simp
instance :Inj eJob:=⟨fun a b h=>by
 obtain ⟨_,_,_,_,_,_,⟨_,_⟩,⟨_,_⟩,_,_,_,_⟩:=a;obtain ⟨_,_,_,_,_,_,⟨_,_⟩,⟨_,_⟩,_,_,_,_⟩:=b
 simp only [eJob,AV.agg.injEq,List.cons.injEq,AV.sc.injEq,Value.int.injEq,Value.bool.injEq,Value.string.injEq,AV.lit.injEq,zdk,and_true,true_and,and_assoc] at h
 simp_all⟩
theorem zGl {a b:Job}:eJob a=eJob b ↔ a=b:=⟨Inj.inj a b,fun h=>by rw [h]⟩
def cJob (x:Job):List AV:=[vI x.id,vI x.kind,vI x.bit,vT x.key,vT x.val,vU x.target,vU x.via.id,vH x.via.addr,vU x.at_.id,vH x.at_.addr,vF x.doing,vI x.hops,vI x.tries,vI x.due]
theorem zyM {a b:Job}:cJob a=cJob b ↔ a=b:=⟨fun h=>Inj.inj (e:=eJob) a b (congrArg AV.agg h),fun h=>by rw [h]⟩
theorem zF7 {a b:Job} {l l':List AV}:capp (cJob a) l=capp (cJob b) l' ↔ a=b ∧ l=l':=⟨fun h=>by rw [zjr,zjr] at h;obtain ⟨h1,h2⟩:=List.append_inj h rfl;exact ⟨zyM.1 h1,h2⟩,fun h=>by rw [h.1,h.2]⟩
structure Result where
 job:Int
 kind:Int
 key:ByteArray
 val:ByteArray
 has:Bool
 err:Int
 deriving DecidableEq
def zal (x:Result):AV:=.agg [vI x.job,vI x.kind,vT x.key,vT x.val,vF x.has,vI x.err]
theorem Result.ext' {a b:Result}:a=b ↔ a.job=b.job ∧ a.kind=b.kind ∧ a.key=b.key ∧ a.val=b.val ∧ a.has=b.has ∧ a.err=b.err:=by cases a;cases b;simp
instance :Inj zal:=⟨fun a b h=>by
 obtain ⟨_,_,_,_,_,_⟩:=a;obtain ⟨_,_,_,_,_,_⟩:=b
 simp only [zal,AV.agg.injEq,List.cons.injEq,AV.sc.injEq,Value.int.injEq,Value.bool.injEq,Value.string.injEq,AV.lit.injEq,zdk,and_true,true_and,and_assoc] at h
 simp only [Result.mk.injEq,and_assoc];simpa only [Result.mk.injEq,and_assoc] using h⟩
theorem zAt {a b:Result}:zal a=zal b ↔ a=b:=⟨Inj.inj a b,fun h=>by rw [h]⟩
structure Node where
 me:Peer
 clock:Int
 joined:Bool
 pred:List Entry
 list:List Entry
 fingers:List Finger
 store:List Pair
 pends:List Pend
 jobs:List Job
 results:List Result
 rid:Int
 jobID:Int
 nextBit:Int
 deriving DecidableEq
def zaJ (x:Node):AV:=.agg [vU x.me.id,vH x.me.addr,vI x.clock,vF x.joined,.lit 81 false (List.map zat x.pred),.lit 81 false (List.map zat x.list),.lit 84 false (List.map zae x.fingers),.lit 78 false (List.map zan x.store),.lit 88 false (List.map zaX x.pends),.lit 67 false (List.map eJob x.jobs),.lit 60 false (List.map zal x.results),vW x.rid,vI x.jobID,vI x.nextBit]
theorem Node.ext' {a b:Node}:a=b ↔ a.me=b.me ∧ a.clock=b.clock ∧ a.joined=b.joined ∧ a.pred=b.pred ∧ a.list=b.list ∧ a.fingers=b.fingers ∧ a.store=b.store ∧ a.pends=b.pends ∧ a.jobs=b.jobs ∧ a.results=b.results ∧ a.rid=b.rid ∧ a.jobID=b.jobID ∧ a.nextBit=b.nextBit:=by cases a;cases b;simp
instance :Inj zaJ:=⟨fun a b h=>by
 obtain ⟨⟨_,_⟩,_,_,_,_,_,_,_,_,_,_,_,_⟩:=a;obtain ⟨⟨_,_⟩,_,_,_,_,_,_,_,_,_,_,_,_⟩:=b
 simp only [zaJ,AV.agg.injEq,List.cons.injEq,AV.sc.injEq,Value.int.injEq,Value.bool.injEq,Value.string.injEq,AV.lit.injEq,zdk,and_true,true_and,and_assoc] at h
 simp_all⟩
theorem zEI {a b:Node}:zaJ a=zaJ b ↔ a=b:=⟨Inj.inj a b,fun h=>by rw [h]⟩
def zam (x:Node):List AV:=[vU x.me.id,vH x.me.addr,vI x.clock,vF x.joined,.lit 81 false (List.map zat x.pred),.lit 81 false (List.map zat x.list),.lit 84 false (List.map zae x.fingers),.lit 78 false (List.map zan x.store),.lit 88 false (List.map zaX x.pends),.lit 67 false (List.map eJob x.jobs),.lit 60 false (List.map zal x.results),vW x.rid,vI x.jobID,vI x.nextBit]
theorem zxa {a b:Node}:zam a=zam b ↔ a=b:=⟨fun h=>Inj.inj (e:=zaJ) a b (congrArg AV.agg h),fun h=>by rw [h]⟩
theorem zEA {a b:Node} {l l':List AV}:capp (zam a) l=capp (zam b) l' ↔ a=b ∧ l=l':=⟨fun h=>by rw [zjr,zjr] at h;obtain ⟨h1,h2⟩:=List.append_inj h rfl;exact ⟨zxa.1 h1,h2⟩,fun h=>by rw [h.1,h.2]⟩
def zaR (x:Node) (u6:AV):List AV:=[vU x.me.id,vH x.me.addr,vI x.clock,vF x.joined,.lit 81 false (List.map zat x.pred),.lit 81 false (List.map zat x.list),u6,.lit 78 false (List.map zan x.store),.lit 88 false (List.map zaX x.pends),.lit 67 false (List.map eJob x.jobs),.lit 60 false (List.map zal x.results),vW x.rid,vI x.jobID,vI x.nextBit]
theorem zn8 {a b:Node} {u6 v6:AV}:zaR a u6=zaR b v6 ↔ (a.me=b.me ∧ a.clock=b.clock ∧ a.joined=b.joined ∧ a.pred=b.pred ∧ a.list=b.list ∧ a.store=b.store ∧ a.pends=b.pends ∧ a.jobs=b.jobs ∧ a.results=b.results ∧ a.rid=b.rid ∧ a.jobID=b.jobID ∧ a.nextBit=b.nextBit) ∧ u6=v6:=by
 obtain ⟨⟨_,_⟩,_,_,_,_,_,_,_,_,_,_,_,_⟩:=a;obtain ⟨⟨_,_⟩,_,_,_,_,_,_,_,_,_,_,_,_⟩:=b
 simp only [zaR,AV.agg.injEq,List.cons.injEq,AV.sc.injEq,Value.int.injEq,Value.bool.injEq,Value.string.injEq,AV.lit.injEq,zdk,and_true,true_and,and_assoc]
 constructor <;> (intro h;simp_all)
theorem zAl {a b:Node} {u6 v6:AV} {l l':List AV}:capp (zaR a u6) l=capp (zaR b v6) l' ↔ ((a.me=b.me ∧ a.clock=b.clock ∧ a.joined=b.joined ∧ a.pred=b.pred ∧ a.list=b.list ∧ a.store=b.store ∧ a.pends=b.pends ∧ a.jobs=b.jobs ∧ a.results=b.results ∧ a.rid=b.rid ∧ a.jobID=b.jobID ∧ a.nextBit=b.nextBit) ∧ u6=v6) ∧ l=l':=⟨fun h=>by rw [zjr,zjr] at h;obtain ⟨h1,h2⟩:=List.append_inj h rfl;exact ⟨zn8.1 h1,h2⟩,fun h=>by rw [zn8.2 h.1,h.2]⟩
theorem zCx {a b:Node} {k6 g6:Nat} {l l':List AV}:(capp (zam a) l=capp (zaR b (.sl k6 g6)) l') ↔ False:=by simp [zam,zaR,capp]
theorem zCy {a b:Node} {k6 g6:Nat} {l l':List AV}:(capp (zaR b (.sl k6 g6)) l'=capp (zam a) l) ↔ False:=by simp [zam,zaR,capp]
structure Msg where
 kind:Int
 rid:Int
 code:Int
 has:Bool
 id:Int
 key:ByteArray
 val:ByteArray
 peer:Peer
 peers:List Peer
 pairs:List Pair
 deriving DecidableEq
def eMsg (x:Msg):AV:=.agg [vI x.kind,vW x.rid,vB x.code,vF x.has,vU x.id,vT x.key,vT x.val,vU x.peer.id,vH x.peer.addr,.lit 25 false (List.map zai x.peers),.lit 78 false (List.map zan x.pairs)]
theorem Msg.ext' {a b:Msg}:a=b ↔ a.kind=b.kind ∧ a.rid=b.rid ∧ a.code=b.code ∧ a.has=b.has ∧ a.id=b.id ∧ a.key=b.key ∧ a.val=b.val ∧ a.peer=b.peer ∧ a.peers=b.peers ∧ a.pairs=b.pairs:=by cases a;cases b;simp
instance :Inj eMsg:=⟨fun a b h=>by
 obtain ⟨_,_,_,_,_,_,_,⟨_,_⟩,_,_⟩:=a;obtain ⟨_,_,_,_,_,_,_,⟨_,_⟩,_,_⟩:=b
 simp only [eMsg,AV.agg.injEq,List.cons.injEq,AV.sc.injEq,Value.int.injEq,Value.bool.injEq,Value.string.injEq,AV.lit.injEq,zdk,and_true,true_and,and_assoc] at h
 simp_all⟩
theorem zGm {a b:Msg}:eMsg a=eMsg b ↔ a=b:=⟨Inj.inj a b,fun h=>by rw [h]⟩
def cMsg (x:Msg):List AV:=[vI x.kind,vW x.rid,vB x.code,vF x.has,vU x.id,vT x.key,vT x.val,vU x.peer.id,vH x.peer.addr,.lit 25 false (List.map zai x.peers),.lit 78 false (List.map zan x.pairs)]
theorem zyN {a b:Msg}:cMsg a=cMsg b ↔ a=b:=⟨fun h=>Inj.inj (e:=eMsg) a b (congrArg AV.agg h),fun h=>by rw [h]⟩
theorem zF8 {a b:Msg} {l l':List AV}:capp (cMsg a) l=capp (cMsg b) l' ↔ a=b ∧ l=l':=⟨fun h=>by rw [zjr,zjr] at h;obtain ⟨h1,h2⟩:=List.append_inj h rfl;exact ⟨zyN.1 h1,h2⟩,fun h=>by rw [h.1,h.2]⟩
structure Out where
 to_:Peer
 msg:Msg
 deriving DecidableEq
def eOut (x:Out):AV:=.agg [vU x.to_.id,vH x.to_.addr,vI x.msg.kind,vW x.msg.rid,vB x.msg.code,vF x.msg.has,vU x.msg.id,vT x.msg.key,vT x.msg.val,vU x.msg.peer.id,vH x.msg.peer.addr,.lit 25 false (List.map zai x.msg.peers),.lit 78 false (List.map zan x.msg.pairs)]
theorem Out.ext' {a b:Out}:a=b ↔ a.to_=b.to_ ∧ a.msg=b.msg:=by cases a;cases b;simp
instance :Inj eOut:=⟨fun a b h=>by
 obtain ⟨⟨_,_⟩,⟨_,_,_,_,_,_,_,⟨_,_⟩,_,_⟩⟩:=a;obtain ⟨⟨_,_⟩,⟨_,_,_,_,_,_,_,⟨_,_⟩,_,_⟩⟩:=b
 simp only [eOut,AV.agg.injEq,List.cons.injEq,AV.sc.injEq,Value.int.injEq,Value.bool.injEq,Value.string.injEq,AV.lit.injEq,zdk,and_true,true_and,and_assoc] at h
 simp_all⟩
theorem zGn {a b:Out}:eOut a=eOut b ↔ a=b:=⟨Inj.inj a b,fun h=>by rw [h]⟩
structure Work_work where
 node:Node
 job:Job
 out:List Out
 deriving DecidableEq
def zbR (x:Work_work):AV:=.agg [vU x.node.me.id,vH x.node.me.addr,vI x.node.clock,vF x.node.joined,.lit 81 false (List.map zat x.node.pred),.lit 81 false (List.map zat x.node.list),.lit 84 false (List.map zae x.node.fingers),.lit 78 false (List.map zan x.node.store),.lit 88 false (List.map zaX x.node.pends),.lit 67 false (List.map eJob x.node.jobs),.lit 60 false (List.map zal x.node.results),vW x.node.rid,vI x.node.jobID,vI x.node.nextBit,vI x.job.id,vI x.job.kind,vI x.job.bit,vT x.job.key,vT x.job.val,vU x.job.target,vU x.job.via.id,vH x.job.via.addr,vU x.job.at_.id,vH x.job.at_.addr,vF x.job.doing,vI x.job.hops,vI x.job.tries,vI x.job.due,.lit 56 false (List.map eOut x.out)]
theorem Work_work.ext' {a b:Work_work}:a=b ↔ a.node=b.node ∧ a.job=b.job ∧ a.out=b.out:=by cases a;cases b;simp
instance :Inj zbR:=⟨fun a b h=>by
 obtain ⟨⟨⟨_,_⟩,_,_,_,_,_,_,_,_,_,_,_,_⟩,⟨_,_,_,_,_,_,⟨_,_⟩,⟨_,_⟩,_,_,_,_⟩,_⟩:=a;obtain ⟨⟨⟨_,_⟩,_,_,_,_,_,_,_,_,_,_,_,_⟩,⟨_,_,_,_,_,_,⟨_,_⟩,⟨_,_⟩,_,_,_,_⟩,_⟩:=b
 simp only [zbR,AV.agg.injEq,List.cons.injEq,AV.sc.injEq,Value.int.injEq,Value.bool.injEq,Value.string.injEq,AV.lit.injEq,zdk,and_true,true_and,and_assoc] at h
 simp_all⟩
theorem zwm {a b:Work_work}:zbR a=zbR b ↔ a=b:=⟨Inj.inj a b,fun h=>by rw [h]⟩
theorem inj_ {p:Prop} (q:p:=by
 first | rfl | ((try simp only [Prod.mk.injEq,St.mk.injEq,List.cons.injEq,AV.sc.injEq,AV.agg.injEq,AV.tup.injEq,AV.lit.injEq,AV.sl.injEq,AV.sub.injEq,AV.rptr.injEq,AV.lptr.injEq,AV.bptr.injEq,AV.fn.injEq,Ent.box.injEq,Ent.row.injEq,Ent.it.injEq,Value.int.injEq,Value.bool.injEq,Value.string.injEq,zJS,zdk,zK8,and_true,true_and,and_assoc,reduceCtorEq,false_and,and_false,zEK,zCB,zAs,zEJ,zEL,zGl,zAt,zEI,zGm,zGn,zwm,zyM,zF7,zxa,zEA,zyN,zF8,zn8,zAl,zCx,zCy] at h) <;> simp_all [Node.ext'])):p:=q
abbrev IF_:Ifc:=⟨Ops.std,(lim F pr).call,(lim F pr).loop,pr,(lim F pr).seg⟩
theorem fin_ {p:Prop} (h:p:=by
 try dsimp only [bd,gam,xlen,xget,xsub,zaV,zb3,ztP,xsapp,zq1,xsofb,xcut,xsrt,eL,zai,zat,zae,zan,zaX,eJob,zal,zaJ,eMsg,eOut,zbR,cJob,zam,cMsg,zaR,capp] at *
 try simp only [zJh,zJk,zJj,zJi,zCX,List.map_cons,List.map_nil] at *
 try dsimp only [zai,zat,zae,zan,zaX,eJob,zal,zaJ,eMsg,eOut,zbR,cJob,zam,cMsg,zaR,capp] at *
 try simp only [List.map_cons,List.map_nil] at *
 unfold IF_
 generalize (lim F pr).call=call at *
 generalize (lim F pr).loop=loop at *
 generalize (lim F pr).seg=seg at *
 try generalize List.map (eL 78 zan)=m0 at *
 try generalize List.map zat=m1 at *
 try generalize List.map zae=m2 at *
 try generalize List.map eJob=m3 at *
 try generalize List.map eOut=m4 at *
 try generalize List.map zan=m5 at *
 try generalize List.map zai=m6 at *
 try generalize List.map zaX=m7 at *
 try generalize List.map zal=m8 at *
 try generalize List.map vT=m9 at *
 generalize Ops.std=o at *
 cases o
 try dsimp only at *
 repeat ((try cbv);first | rw [h0] | rw [h1] | rw [h2] | rw [h3] | rw [h4] | rw [h5] | rw [h6] | rw [h7] | rw [h8] | rw [h9] | rw [h10] | rw [h11] | rw [h12] | rw [h13] | rw [h14] | rw [h15] | rw [h16] | rw [h17] | rw [h18] | rw [h19] | rw [h20] | rw [h21] | rw [h22] | rw [h23] | rw [h24] | rw [h25] | rw [h26] | rw [h27] | rw [h28] | rw [h29] | rw [h30] | rw [h31] | rw [h32] | rw [h33] | rw [h34] | rw [h35] | rw [h36] | rw [h37] | rw [h38] | rw [h39] | rw [h40] | rw [h41] | rw [h42] | rw [h43] | rw [h44] | rw [h45] | rw [h46] | rw [h47] | rw [h48] | rw [h49] | rw [h50] | rw [h51] | rw [h52] | rw [h53] | rw [h54] | rw [h55] | rw [h56] | rw [h57] | rw [h58] | rw [h59] | rw [h60] | rw [h61] | rw [h62] | rw [h63] | rw [h64] | rw [h65] | rw [h66] | rw [h67] | rw [h68] | rw [h69] | rw [h70])
 try cbv):p:=h
def zrx (n:Node) (key:ByteArray) (val:ByteArray) (other:ByteArray):Option (Bool):=ask (R1 vF) ((lim F pr).call 6 [zaJ n,vT key,vT val,vT other] [])
def zpB (n:Node) (kind:Int) (key:ByteArray) (val:ByteArray) (via:Peer) (bit:Int):Option (Bool):=ask (R1 vF) ((lim F pr).call 7 [zaJ n,vI kind,vT key,vT val,zai via,vI bit] [])
def zs2 (n:Node) (id:Int) (why:Int):Option (Bool):=ask (R1 vF) ((lim F pr).call 8 [zaJ n,vI id,vI why] [])
def zlC (n:Node):Option (Bool):=ask (R1 vF) ((lim F pr).call 11 [zaJ n] [])
def zbz:Option (Bool):=ask (R1 vF) ((lim F pr).call 26 [] [])
def zkI (s:ByteArray):Option (Bool):=ask (R1 vF) ((lim F pr).call 25 [vT s] [])
def zij (n:Node) (kind:Int) (key:ByteArray) (val:ByteArray):Option ((Node × (List Out) × Int)):=ask (R3 zaJ (eL 56 eOut) vI) ((lim F pr).call 27 [zaJ n,vI kind,vT key,vT val] [])
abbrev zoi:=(Int × Int × Int × Bool × (List Entry) × (List Entry) × (List Finger) × (List Pair) × (List Pend) × (List Job) × (List Result) × Int × Int × Int)
def zbu:zoi → AV × Store
 | (a0,a1,a2,a3,a4,a5,a6,a7,a8,a9,a10,a11,a12,a13)=>(.agg [vU a0,vH a1,vI a2,vF a3,.sl 0 0,.sl 1 0,.sl 2 0,.sl 3 0,.sl 4 0,.sl 5 0,.sl 6 0,vW a11,vI a12,vI a13],[.row 81 0 false (List.map zat a4),.row 81 0 false (List.map zat a5),.row 84 0 false (List.map zae a6),.row 78 0 false (List.map zan a7),.row 88 0 false (List.map zaX a8),.row 67 0 false (List.map eJob a9),.row 60 0 false (List.map zal a10)])
instance :Inj zbu:=⟨fun x y h=>by
 rcases x with ⟨a0,a1,a2,a3,a4,a5,a6,a7,a8,a9,a10,a11,a12,a13⟩ <;> rcases y with ⟨a0',a1',a2',a3',a4',a5',a6',a7',a8',a9',a10',a11',a12',a13'⟩ <;> simp only [zbu] at h <;> exact inj_⟩
def zcj (n:Node):Option (zoi):=ask zbu ((lim F pr).call 14 [zaJ n] [])
def zsC (n:Node) (kind:Int) (key:ByteArray) (val:ByteArray):Option ((Node × (List Out) × Int)):=ask (R3 zaJ (eL 56 eOut) vI) ((lim F pr).call 28 [zaJ n,vI kind,vT key,vT val] [])
def zs4 (n:Node) (via:Peer):Option ((Node × (List Out) × Int)):=ask (R3 zaJ (eL 56 eOut) vI) ((lim F pr).call 29 [zaJ n,zai via] [])
def zuE (n:Node) (via:Peer):Option ((Node × (List Out) × Int)):=ask (R3 zaJ (eL 56 eOut) vI) ((lim F pr).call 30 [zaJ n,zai via] [])
def zuS (n:Node) (bit:Int):Option ((Node × (List Out) × Int)):=ask (R3 zaJ (eL 56 eOut) vI) ((lim F pr).call 31 [zaJ n,vI bit] [])
def zwQ (n:Node) (bit:Int):Option ((Node × (List Out) × Int)):=ask (R3 zaJ (eL 56 eOut) vI) ((lim F pr).call 32 [zaJ n,vI bit] [])
def zjc (a:Node) (b:Node):Option (Bool):=ask (R1 vF) ((lim F pr).call 17 [zaJ a,zaJ b] [])
def zkL (a:List Out) (b:List Out):Option (Bool):=ask (R1 vF) ((lim F pr).call 18 [.lit 56 false (List.map eOut a),.lit 56 false (List.map eOut b)] [])
def zhz (l:List Job) (id:Int):Option (Int):=ask (R1 vI) ((lim F pr).call 33 [.lit 67 false (List.map eJob l),vI id] [])
def zoQ (n:Node) (id:Int) (why:Int):Option ((Node × (List Out))):=ask (R2 zaJ (eL 56 eOut)) ((lim F pr).call 34 [zaJ n,vI id,vI why] [])
def zsZ (l:List Pair):Option (Bool):=ask (R1 vF) ((lim F pr).call 19 [.lit 78 false (List.map zan l)] [])
def zsm (s:ByteArray):Option (Bool):=ask (R1 vF) ((lim F pr).call 85 [vT s] [])
def znM (s:ByteArray):Option ((List ByteArray)):=ask (R1 (eL 9 vT)) ((lim F pr).call 86 [vT s] [])
def ztK (s:ByteArray):Option (Bool):=ask (R1 vF) ((lim F pr).call 24 [vT s] [])
def zmf (s:ByteArray):Option (Int):=ask (R1 vU) ((lim F pr).call 88 [vT s] [])
def zhP (n:Node) (j:Job):Option ((Node × (List Out) × Int)):=ask (R3 zaJ (eL 56 eOut) vI) ((lim F pr).call 87 [zaJ n,eJob j] [])
def zso (s:ByteArray):Option (Int):=ask (R1 vU) ((lim F pr).call 90 [vT s] [])
def zmu (n:Node) (j:Job):Option ((Node × (List Out) × Int)):=ask (R3 zaJ (eL 56 eOut) vI) ((lim F pr).call 89 [zaJ n,eJob j] [])
def znH (l:List Job) (kind:Int):Option (Bool):=ask (R1 vF) ((lim F pr).call 91 [.lit 67 false (List.map eJob l),vI kind] [])
def zqB (l:List Job) (kind:Int):Option (Bool):=ask (R1 vF) ((lim F pr).call 92 [.lit 67 false (List.map eJob l),vI kind] [])
def zqP (id:Int) (bit:Int):Option (Int):=ask (R1 vU) ((lim F pr).call 93 [vU id,vI bit] [])
def zsj (id:Int) (bit:Int):Option (Int):=ask (R1 vU) ((lim F pr).call 94 [vU id,vI bit] [])
def zqt (a:List Entry) (b:List Entry):Option (Bool):=ask (R1 vF) ((lim F pr).call 69 [.lit 81 false (List.map zat a),.lit 81 false (List.map zat b)] [])
def zuy (a:List Finger) (b:List Finger):Option (Bool):=ask (R1 vF) ((lim F pr).call 70 [.lit 84 false (List.map zae a),.lit 84 false (List.map zae b)] [])
def znO (a:List Pair) (b:List Pair):Option (Bool):=ask (R1 vF) ((lim F pr).call 71 [.lit 78 false (List.map zan a),.lit 78 false (List.map zan b)] [])
def zsy (a:List Pend) (b:List Pend):Option (Bool):=ask (R1 vF) ((lim F pr).call 72 [.lit 88 false (List.map zaX a),.lit 88 false (List.map zaX b)] [])
def zuz (a:Node) (b:Node):Option (Bool):=ask (R1 vF) ((lim F pr).call 73 [zaJ a,zaJ b] [])
def zuw (a:Msg) (b:Msg):Option (Bool):=ask (R1 vF) ((lim F pr).call 74 [eMsg a,eMsg b] [])
def zlw (l:List Job) (id:Int):Option (Int):=ask (R1 vI) ((lim F pr).call 162 [.lit 67 false (List.map eJob l),vI id] [])
def zjC (γ:Nat → Nat):(Bool × Node × Job × (List Out)) → AV × Store
 | (a0,a1,a2,a3)=>(.tup [.bptr 0 0,vF a0],[.box 135 (capp (zaR a1 (.sl 1 ((γ 1)))) (capp (cJob a2) ([.sl 2 ((γ 2))]))),.row 84 (γ 1) false (List.map zae a1.fingers),.row 56 (γ 2) false (List.map eOut a3)])
instance :InjS zjC:=⟨fun γ γ' x y h=>by
 rcases x with ⟨a0,a1,a2,a3⟩ <;> rcases y with ⟨a0',a1',a2',a3'⟩ <;> simp only [zjC] at h <;> exact inj_⟩
def ztN (n:Node) (id:Int):Option ((Bool × Node × Job × (List Out))):=asks (fun γ=>(lim F pr).call 95 [zaJ n,vI id] []) zjC
abbrev zp5:=(Int × Int × Int × Bool × (List Entry) × (List Entry) × (List Finger) × (List Pair) × (List Pend) × (List Job) × (List Result) × Int × Int × Int)
def zh1:zp5 → AV × Store
 | (a0,a1,a2,a3,a4,a5,a6,a7,a8,a9,a10,a11,a12,a13)=>(.agg [vU a0,vH a1,vI a2,vF a3,.sl 0 0,.sl 1 0,.sl 2 0,.sl 3 0,.sl 4 0,.sl 5 0,.sl 6 0,vW a11,vI a12,vI a13],[.row 81 0 false (List.map zat a4),.row 81 0 false (List.map zat a5),.row 84 0 false (List.map zae a6),.row 78 0 false (List.map zan a7),.row 88 0 false (List.map zaX a8),.row 67 0 false (List.map eJob a9),.row 60 0 false (List.map zal a10)])
instance :Inj zh1:=⟨fun x y h=>by
 rcases x with ⟨a0,a1,a2,a3,a4,a5,a6,a7,a8,a9,a10,a11,a12,a13⟩ <;> rcases y with ⟨a0',a1',a2',a3',a4',a5',a6',a7',a8',a9',a10',a11',a12',a13'⟩ <;> simp only [zh1] at h <;> exact inj_⟩
def zp4 (n:Node) (j:Job):Option (zp5):=ask zh1 ((lim F pr).call 211 [zaJ n,eJob j] [])
def zds (b0_job:Job) (r2:List Out) (γ:Nat → Nat):(Node × (List Finger)) → AV × Store
 | (a0,a1)=>(.tup [],[.box 135 (capp (zaR a0 (.sl 3 ((γ 3)))) ([vI b0_job.id,vI b0_job.kind,vI b0_job.bit,vT b0_job.key,vT b0_job.val,vU b0_job.target,vU b0_job.via.id,vH b0_job.via.addr,vU b0_job.at_.id,vH b0_job.at_.addr,vF b0_job.doing,vI b0_job.hops,vI b0_job.tries,vI b0_job.due,.sl 2 ((γ 2))])),.row 84 (γ 1) true (List.map zae a1),.row 56 (γ 2) false (List.map eOut r2),.row 84 (γ 3) false (List.map zae a0.fingers)])
instance {b0_job r2}:InjS (zds b0_job r2):=⟨fun γ γ' x y h=>by
 rcases x with ⟨a0,a1⟩ <;> rcases y with ⟨a0',a1'⟩ <;> simp only [zds] at h <;> exact inj_⟩
def zee (b0_node:Node) (b0_job:Job) (r2:List Out):Option ((Node × (List Finger))):=asks (fun γ=>(lim F pr).call 163 [.bptr 0 0] [.box 135 (capp (zaR b0_node (.sl 1 (γ 1))) (capp (cJob b0_job) ([.sl 2 (γ 2)]))),.row 84 (γ 1) false (List.map zae b0_node.fingers),.row 56 (γ 2) false (List.map eOut r2)]) (zds b0_job r2)
def ziv (n:Node) (id:Int) (has:Bool) (val:ByteArray) (e_:Int):Option (Node):=ask (R1 zaJ) ((lim F pr).call 185 [zaJ n,vI id,vF has,vT val,vI e_] [])
def zbN (val:ByteArray) (b0_job:Job) (r2:List Out) (γ:Nat → Nat):(Node × (List Finger)) → AV × Store
 | (a0,a1)=>(.tup [],[.box 135 (capp (zam a0) ([vI b0_job.id,vI b0_job.kind,vI b0_job.bit,vT b0_job.key,vT b0_job.val,vU b0_job.target,vU b0_job.via.id,vH b0_job.via.addr,vU b0_job.at_.id,vH b0_job.at_.addr,vF b0_job.doing,vI b0_job.hops,vI b0_job.tries,vI b0_job.due,.sl 2 ((γ 2))])),.row 84 (γ 1) true (List.map zae a1),.row 56 (γ 2) false (List.map eOut r2)])
instance {val b0_job r2}:InjS (zbN val b0_job r2):=⟨fun γ γ' x y h=>by
 rcases x with ⟨a0,a1⟩ <;> rcases y with ⟨a0',a1'⟩ <;> simp only [zbN] at h <;> exact inj_⟩
def zca (has:Bool) (val:ByteArray) (e_:Int) (b0_node:Node) (b0_job:Job) (r2:List Out):Option ((Node × (List Finger))):=asks (fun γ=>(lim F pr).call 120 [.bptr 0 0,vF has,vT val,vI e_] [.box 135 (capp (zaR b0_node (.sl 1 (γ 1))) (capp (cJob b0_job) ([.sl 2 (γ 2)]))),.row 84 (γ 1) false (List.map zae b0_node.fingers),.row 56 (γ 2) false (List.map eOut r2)]) (zbN val b0_job r2)
def zmR (n:Node) (to_:Peer) (m:Msg) (why:Int) (job:Int):Option ((Node × (List Out))):=ask (R2 zaJ (eL 56 eOut)) ((lim F pr).call 80 [zaJ n,zai to_,eMsg m,vI why,vI job] [])
def zcb (n:Node) (b0_job:Job) (γ:Nat → Nat):((List Finger) × (List Out)) → AV × Store
 | (a0,a1)=>(.tup [],[.box 135 (capp (zam n) (capp (cJob b0_job) ([.sl 2 ((γ 2))]))),.row 84 (γ 1) true (List.map zae a0),.row 56 (γ 2) false (List.map eOut a1)])
instance {n b0_job}:InjS (zcb n b0_job):=⟨fun γ γ' x y h=>by
 rcases x with ⟨a0,a1⟩ <;> rcases y with ⟨a0',a1'⟩ <;> simp only [zcb] at h <;> exact inj_⟩
def zfI (n:Node) (out:List Out) (b0_node:Node) (b0_job:Job) (r2:List Out):Option (((List Finger) × (List Out))):=asks (fun γ=>(lim F pr).call 184 [.bptr 0 0,zaJ n,.lit 56 false (List.map eOut out)] [.box 135 (capp (zaR b0_node (.sl 1 (γ 1))) (capp (cJob b0_job) ([.sl 2 (γ 2)]))),.row 84 (γ 1) true (List.map zae b0_node.fingers),.row 56 (γ 2) false (List.map eOut r2)]) (zcb n b0_job)
abbrev zkf:=(Node × Job × (List Finger) × (List Out))
def zdq (γ:Nat → Nat):zkf → AV × Store
 | (a0,a1,a2,a3)=>(.tup [],[.box 135 (capp (zam a0) (capp (cJob a1) ([.sl 2 ((γ 2))]))),.row 84 (γ 1) true (List.map zae a2),.row 56 (γ 2) false (List.map eOut a3)])
instance :InjS zdq:=⟨fun γ γ' x y h=>by
 rcases x with ⟨a0,a1,a2,a3⟩ <;> rcases y with ⟨a0',a1',a2',a3'⟩ <;> simp only [zdq] at h <;> exact inj_⟩
def zed (to_:Peer) (m:Msg) (why:Int) (b0_node:Node) (b0_job:Job) (r2:List Out):Option (zkf):=asks (fun γ=>(lim F pr).call 212 [.bptr 0 0,zai to_,eMsg m,vI why] [.box 135 (capp (zaR b0_node (.sl 1 (γ 1))) (capp (cJob b0_job) ([.sl 2 (γ 2)]))),.row 84 (γ 1) false (List.map zae b0_node.fingers),.row 56 (γ 2) false (List.map eOut r2)]) zdq
abbrev zjk:=(Node × Job × (List Finger) × (List Out))
def zdX (γ:Nat → Nat):zjk → AV × Store
 | (a0,a1,a2,a3)=>(.tup [],[.box 135 (capp (zam a0) (capp (cJob a1) ([.sl 2 ((γ 2))]))),.row 84 (γ 1) true (List.map zae a2),.row 56 (γ 2) false (List.map eOut a3)])
instance :InjS zdX:=⟨fun γ γ' x y h=>by
 rcases x with ⟨a0,a1,a2,a3⟩ <;> rcases y with ⟨a0',a1',a2',a3'⟩ <;> simp only [zdX] at h <;> exact inj_⟩
def zk0 (to_:Peer) (b0_node:Node) (b0_job:Job) (r2:List Out):Option (zjk):=asks (fun γ=>(lim F pr).call 174 [.bptr 0 0,zai to_] [.box 135 (capp (zaR b0_node (.sl 1 (γ 1))) (capp (cJob b0_job) ([.sl 2 (γ 2)]))),.row 84 (γ 1) false (List.map zae b0_node.fingers),.row 56 (γ 2) false (List.map eOut r2)]) zdX
def zqQ (n:Node) (key:Int):Option ((Peer × (List Peer) × Bool)):=ask (R3 zai (eL 25 zai) vF) ((lim F pr).call 124 [zaJ n,vU key] [])
def zcy (b0_job:Job) (r2:List Out) (γ:Nat → Nat):(Node × (List Finger)) → AV × Store
 | (a0,a1)=>(.tup [],[.box 135 (capp (zaR a0 (.sl 3 ((γ 3)))) ([vI b0_job.id,vI b0_job.kind,vI b0_job.bit,vT b0_job.key,vT b0_job.val,vU b0_job.target,vU b0_job.via.id,vH b0_job.via.addr,vU b0_job.at_.id,vH b0_job.at_.addr,vF b0_job.doing,vI b0_job.hops,vI b0_job.tries,vI b0_job.due,.sl 2 ((γ 2))])),.row 84 (γ 1) true (List.map zae a1),.row 56 (γ 2) false (List.map eOut r2),.row 84 (γ 3) false (List.map zae a0.fingers)])
instance {b0_job r2}:InjS (zcy b0_job r2):=⟨fun γ γ' x y h=>by
 rcases x with ⟨a0,a1⟩ <;> rcases y with ⟨a0',a1'⟩ <;> simp only [zcy] at h <;> exact inj_⟩
def zdr (b0_node:Node) (b0_job:Job) (r2:List Out):Option ((Node × (List Finger))):=asks (fun γ=>(lim F pr).call 163 [.bptr 0 0] [.box 135 (capp (zaR b0_node (.sl 1 (γ 1))) (capp (cJob b0_job) ([.sl 2 (γ 2)]))),.row 84 (γ 1) true (List.map zae b0_node.fingers),.row 56 (γ 2) false (List.map eOut r2)]) (zcy b0_job r2)
abbrev zkc:=(Node × Job × (List Finger) × (List Out))
def zdp (γ:Nat → Nat):zkc → AV × Store
 | (a0,a1,a2,a3)=>(.tup [],[.box 135 (capp (zam a0) (capp (cJob a1) ([.sl 2 ((γ 2))]))),.row 84 (γ 1) true (List.map zae a2),.row 56 (γ 2) false (List.map eOut a3)])
instance :InjS zdp:=⟨fun γ γ' x y h=>by
 rcases x with ⟨a0,a1,a2,a3⟩ <;> rcases y with ⟨a0',a1',a2',a3'⟩ <;> simp only [zdp] at h <;> exact inj_⟩
def zi5 (to_:Peer) (b0_node:Node) (b0_job:Job) (r2:List Out):Option (zkc):=asks (fun γ=>(lim F pr).call 175 [.bptr 0 0,zai to_] [.box 135 (capp (zaR b0_node (.sl 1 (γ 1))) (capp (cJob b0_job) ([.sl 2 (γ 2)]))),.row 84 (γ 1) false (List.map zae b0_node.fingers),.row 56 (γ 2) false (List.map eOut r2)]) zdp
def zbV (b1_node:Node) (b1_job:Job) (r3:List Out) (γ:Nat → Nat):Bool → AV × Store
 | a0=>(vF a0,[.box 120 [.bptr 1 0],.box 135 (capp (zaR b1_node (.sl 2 ((γ 2)))) (capp (cJob b1_job) ([.sl 3 ((γ 3))]))),.row 84 (γ 2) false (List.map zae b1_node.fingers),.row 56 (γ 3) false (List.map eOut r3)])
instance {b1_node b1_job r3}:InjS (zbV b1_node b1_job r3):=⟨fun γ γ' x y h=>by
 rcases x with a0 <;> rcases y with a0' <;> simp only [zbV] at h <;> exact inj_⟩
def zde (f:Finger) (b1_node:Node) (b1_job:Job) (r3:List Out):Option (Bool):=askg (fun γ=>(lim F pr).call 214 [zae f,.bptr 0 0] [.box 120 [.bptr 1 0],.box 135 (capp (zaR b1_node (.sl 2 (γ 2))) (capp (cJob b1_job) ([.sl 3 (γ 3)]))),.row 84 (γ 2) false (List.map zae b1_node.fingers),.row 56 (γ 3) false (List.map eOut r3)]) (zbV b1_node b1_job r3)
def zcZ (b2_node:Node) (za1:Job) (r3:List Out) (γ:Nat → Nat):Int → AV × Store
 | a0=>(vI a0,[.row 84 (γ 0) false (List.map zae b2_node.fingers),.box 120 [.bptr 2 0],.box 135 (capp (zaR b2_node (.sl 0 ((γ 0)))) (capp (cJob za1) ([.sl 3 ((γ 3))]))),.row 56 (γ 3) false (List.map eOut r3)])
instance {b2_node za1 r3}:InjS (zcZ b2_node za1 r3):=⟨fun γ γ' x y h=>by
 rcases x with a0 <;> rcases y with a0' <;> simp only [zcZ] at h <;> exact inj_⟩
def zi7 (b2_node:Node) (za1:Job) (r3:List Out):Option (Int):=askg (fun γ=>(lim F pr).call 233 [.sl 0 (γ 0),.fn 214 [.bptr 1 0]] [.row 84 (γ 0) false (List.map zae b2_node.fingers),.box 120 [.bptr 2 0],.box 135 (capp (zaR b2_node (.sl 0 (γ 0))) (capp (cJob za1) ([.sl 3 (γ 3)]))),.row 56 (γ 3) false (List.map eOut r3)]) (zcZ b2_node za1 r3)
abbrev zgQ:=((List Finger) × Int × Int × Int × Bool × (List Entry) × (List Entry) × (List Pair) × (List Pend) × (List Job) × (List Result) × Int × Int × Int)
def zcD (za1:Job) (r3:List Out) (γ:Nat → Nat):zgQ → AV × Store
 | (a0,a1,a2,a3,a4,a5,a6,a7,a8,a9,a10,a11,a12,a13)=>(.sl 0 ((γ 0)),[.row 84 (γ 0) false (List.map zae a0),.box 120 [.bptr 2 0],.box 135 (vU a1 :: vH a2 :: vI a3 :: vF a4 :: .lit 81 false (List.map zat a5) :: .lit 81 false (List.map zat a6) :: .sl 0 ((γ 40)) :: .lit 78 false (List.map zan a7) :: .lit 88 false (List.map zaX a8) :: .lit 67 false (List.map eJob a9) :: .lit 60 false (List.map zal a10) :: vW a11 :: vI a12 :: vI a13 :: (capp (cJob za1) ([.sl 3 ((γ 3))]))),.row 56 (γ 3) false (List.map eOut r3)])
instance {za1 r3}:InjS (zcD za1 r3):=⟨fun γ γ' x y h=>by
 rcases x with ⟨a0,a1,a2,a3,a4,a5,a6,a7,a8,a9,a10,a11,a12,a13⟩ <;> rcases y with ⟨a0',a1',a2',a3',a4',a5',a6',a7',a8',a9',a10',a11',a12',a13'⟩ <;> simp only [zcD] at h <;> exact inj_⟩
def zin (b2_node:Node) (za1:Job) (r3:List Out):Option (zgQ):=asks (fun γ=>(lim F pr).call 213 [.sl 0 (γ 0),.fn 214 [.bptr 1 0]] [.row 84 (γ 0) false (List.map zae b2_node.fingers),.box 120 [.bptr 2 0],.box 135 (capp (zaR b2_node (.sl 0 (γ 0))) (capp (cJob za1) ([.sl 3 (γ 3)]))),.row 56 (γ 3) false (List.map eOut r3)]) (zcD za1 r3)
def zrY (l:List Finger) (bit:Int) (p:Peer):Option ((List Finger)):=ask (R1 (eL 84 zae)) ((lim F pr).call 215 [.lit 84 false (List.map zae l),vI bit,zai p] [])
def zbW (val:ByteArray) (b0_job:Job) (r1:List Out) (γ:Nat → Nat):Node → AV × Store
 | a0=>(.tup [],[.box 135 (capp (zam a0) ([vI b0_job.id,vI b0_job.kind,vI b0_job.bit,vT b0_job.key,vT b0_job.val,vU b0_job.target,vU b0_job.via.id,vH b0_job.via.addr,vU b0_job.at_.id,vH b0_job.at_.addr,vF b0_job.doing,vI b0_job.hops,vI b0_job.tries,vI b0_job.due,.sl 1 ((γ 1))])),.row 56 (γ 1) false (List.map eOut r1)])
instance {val b0_job r1}:InjS (zbW val b0_job r1):=⟨fun γ γ' x y h=>by
 rcases x with a0 <;> rcases y with a0' <;> simp only [zbW] at h <;> exact inj_⟩
def zdh (has:Bool) (val:ByteArray) (e_:Int) (b0_node:Node) (b0_job:Job) (r1:List Out):Option (Node):=asks (fun γ=>(lim F pr).call 120 [.bptr 0 0,vF has,vT val,vI e_] [.box 135 (capp (zam b0_node) (capp (cJob b0_job) ([.sl 1 (γ 1)]))),.row 56 (γ 1) false (List.map eOut r1)]) (zbW val b0_job r1)
def zdf (b0_job:Job) (r2:List Out) (γ:Nat → Nat):(Node × (List Finger)) → AV × Store
 | (a0,a1)=>(.tup [],[.box 135 (capp (zam a0) ([vI b0_job.id,vI b0_job.kind,vI b0_job.bit,vT b0_job.key,vT b0_job.val,vU b0_job.target,vU b0_job.via.id,vH b0_job.via.addr,vU b0_job.at_.id,vH b0_job.at_.addr,vF b0_job.doing,vI b0_job.hops,vI b0_job.tries,vI b0_job.due,.sl 2 ((γ 2))])),.row 84 (γ 1) true (List.map zae a1),.row 56 (γ 2) false (List.map eOut r2)])
instance {b0_job r2}:InjS (zdf b0_job r2):=⟨fun γ γ' x y h=>by
 rcases x with ⟨a0,a1⟩ <;> rcases y with ⟨a0',a1'⟩ <;> simp only [zdf] at h <;> exact inj_⟩
def zji (owner:Peer) (mine:Bool) (b0_node:Node) (b0_job:Job) (r2:List Out):Option ((Node × (List Finger))):=asks (fun γ=>(lim F pr).call 176 [.bptr 0 0,zai owner,vF mine] [.box 135 (capp (zaR b0_node (.sl 1 (γ 1))) (capp (cJob b0_job) ([.sl 2 (γ 2)]))),.row 84 (γ 1) false (List.map zae b0_node.fingers),.row 56 (γ 2) false (List.map eOut r2)]) (zdf b0_job r2)
def zqT (n:Node) (key:ByteArray) (val:ByteArray):Option ((Node × (List Out) × Int)):=ask (R3 zaJ (eL 56 eOut) vI) ((lim F pr).call 20 [zaJ n,vT key,vT val] [])
def zcx (val:ByteArray) (b0_job:Job) (r2:List Out) (γ:Nat → Nat):(Node × (List Finger)) → AV × Store
 | (a0,a1)=>(.tup [],[.box 135 (capp (zam a0) ([vI b0_job.id,vI b0_job.kind,vI b0_job.bit,vT b0_job.key,vT b0_job.val,vU b0_job.target,vU b0_job.via.id,vH b0_job.via.addr,vU b0_job.at_.id,vH b0_job.at_.addr,vF b0_job.doing,vI b0_job.hops,vI b0_job.tries,vI b0_job.due,.sl 2 ((γ 2))])),.row 84 (γ 1) true (List.map zae a1),.row 56 (γ 2) false (List.map eOut r2)])
instance {val b0_job r2}:InjS (zcx val b0_job r2):=⟨fun γ γ' x y h=>by
 rcases x with ⟨a0,a1⟩ <;> rcases y with ⟨a0',a1'⟩ <;> simp only [zcx] at h <;> exact inj_⟩
def zhV (has:Bool) (val:ByteArray) (e_:Int) (b0_node:Node) (b0_job:Job) (r2:List Out):Option ((Node × (List Finger))):=asks (fun γ=>(lim F pr).call 120 [.bptr 0 0,vF has,vT val,vI e_] [.box 135 (capp (zaR b0_node (.sl 1 (γ 1))) (capp (cJob b0_job) ([.sl 2 (γ 2)]))),.row 84 (γ 1) true (List.map zae b0_node.fingers),.row 56 (γ 2) false (List.map eOut r2)]) (zcx val b0_job r2)
def zdY (b0_job:Job) (γ:Nat → Nat):(Node × (List Finger) × (List Out)) → AV × Store
 | (a0,a1,a2)=>(.tup [],[.box 135 (capp (zam a0) ([vI b0_job.id,vI b0_job.kind,vI b0_job.bit,vT b0_job.key,vT b0_job.val,vU b0_job.target,vU b0_job.via.id,vH b0_job.via.addr,vU b0_job.at_.id,vH b0_job.at_.addr,vF b0_job.doing,vI b0_job.hops,vI b0_job.tries,vI b0_job.due,.sl 2 ((γ 2))])),.row 84 (γ 1) true (List.map zae a1),.row 56 (γ 2) false (List.map eOut a2)])
instance {b0_job}:InjS (zdY b0_job):=⟨fun γ γ' x y h=>by
 rcases x with ⟨a0,a1,a2⟩ <;> rcases y with ⟨a0',a1',a2'⟩ <;> simp only [zdY] at h <;> exact inj_⟩
def zk1 (b0_node:Node) (b0_job:Job) (r2:List Out):Option ((Node × (List Finger) × (List Out))):=asks (fun γ=>(lim F pr).call 177 [.bptr 0 0] [.box 135 (capp (zaR b0_node (.sl 1 (γ 1))) (capp (cJob b0_job) ([.sl 2 (γ 2)]))),.row 84 (γ 1) false (List.map zae b0_node.fingers),.row 56 (γ 2) false (List.map eOut r2)]) (zdY b0_job)
def zsS (l:List Pair) (key:ByteArray):Option ((ByteArray × Bool)):=ask (R2 vT vF) ((lim F pr).call 132 [.lit 78 false (List.map zan l),vT key] [])
abbrev zkg:=(Node × Job × (List Finger) × (List Out))
def zeH (γ:Nat → Nat):zkg → AV × Store
 | (a0,a1,a2,a3)=>(.tup [],[.box 135 (capp (zam a0) (capp (cJob a1) ([.sl 2 ((γ 2))]))),.row 84 (γ 1) true (List.map zae a2),.row 56 (γ 2) false (List.map eOut a3)])
instance :InjS zeH:=⟨fun γ γ' x y h=>by
 rcases x with ⟨a0,a1,a2,a3⟩ <;> rcases y with ⟨a0',a1',a2',a3'⟩ <;> simp only [zeH] at h <;> exact inj_⟩
def zi6 (owner:Peer) (b0_node:Node) (b0_job:Job) (r2:List Out):Option (zkg):=asks (fun γ=>(lim F pr).call 112 [.bptr 0 0,zai owner] [.box 135 (capp (zaR b0_node (.sl 1 (γ 1))) (capp (cJob b0_job) ([.sl 2 (γ 2)]))),.row 84 (γ 1) false (List.map zae b0_node.fingers),.row 56 (γ 2) false (List.map eOut r2)]) zeH
abbrev ziq:=(Node × Job × (List Finger) × (List Out))
def zdE (γ:Nat → Nat):ziq → AV × Store
 | (a0,a1,a2,a3)=>(.tup [],[.box 135 (capp (zam a0) (capp (cJob a1) ([.sl 2 ((γ 2))]))),.row 84 (γ 1) true (List.map zae a2),.row 56 (γ 2) false (List.map eOut a3)])
instance :InjS zdE:=⟨fun γ γ' x y h=>by
 rcases x with ⟨a0,a1,a2,a3⟩ <;> rcases y with ⟨a0',a1',a2',a3'⟩ <;> simp only [zdE] at h <;> exact inj_⟩
def zke (to_:Peer) (m:Msg) (why:Int) (b0_node:Node) (b0_job:Job) (r2:List Out):Option (ziq):=asks (fun γ=>(lim F pr).call 212 [.bptr 0 0,zai to_,eMsg m,vI why] [.box 135 (capp (zaR b0_node (.sl 1 (γ 1))) (capp (cJob b0_job) ([.sl 2 (γ 2)]))),.row 84 (γ 1) true (List.map zae b0_node.fingers),.row 56 (γ 2) false (List.map eOut r2)]) zdE
abbrev zhU:=(Node × Job × (List Finger) × (List Out))
def zdg (γ:Nat → Nat):zhU → AV × Store
 | (a0,a1,a2,a3)=>(.tup [],[.box 135 (capp (zam a0) (capp (cJob a1) ([.sl 2 ((γ 2))]))),.row 84 (γ 1) true (List.map zae a2),.row 56 (γ 2) false (List.map eOut a3)])
instance :InjS zdg:=⟨fun γ γ' x y h=>by
 rcases x with ⟨a0,a1,a2,a3⟩ <;> rcases y with ⟨a0',a1',a2',a3'⟩ <;> simp only [zdg] at h <;> exact inj_⟩
def zjj (to_:Peer) (b0_node:Node) (b0_job:Job) (r2:List Out):Option (zhU):=asks (fun γ=>(lim F pr).call 174 [.bptr 0 0,zai to_] [.box 135 (capp (zaR b0_node (.sl 1 (γ 1))) (capp (cJob b0_job) ([.sl 2 (γ 2)]))),.row 84 (γ 1) true (List.map zae b0_node.fingers),.row 56 (γ 2) false (List.map eOut r2)]) zdg
abbrev zjm:=(Node × Job × (List Finger) × (List Out))
def zcQ (γ:Nat → Nat):zjm → AV × Store
 | (a0,a1,a2,a3)=>(.tup [],[.box 135 (capp (zam a0) (capp (cJob a1) ([.sl 2 ((γ 2))]))),.row 84 (γ 1) true (List.map zae a2),.row 56 (γ 2) false (List.map eOut a3)])
instance :InjS zcQ:=⟨fun γ γ' x y h=>by
 rcases x with ⟨a0,a1,a2,a3⟩ <;> rcases y with ⟨a0',a1',a2',a3'⟩ <;> simp only [zcQ] at h <;> exact inj_⟩
def zcP (b0_node:Node) (b0_job:Job) (r2:List Out):Option (zjm):=asks (fun γ=>(lim F pr).call 109 [.bptr 0 0] [.box 135 (capp (zaR b0_node (.sl 1 (γ 1))) (capp (cJob b0_job) ([.sl 2 (γ 2)]))),.row 84 (γ 1) false (List.map zae b0_node.fingers),.row 56 (γ 2) false (List.map eOut r2)]) zcQ
abbrev zf3:=(Node × Job × (List Finger)) ⊕ (Node × Job × (List Finger) × (List Out))
def zdV (r2:List Out) (γ:Nat → Nat):zf3 → AV × Store
 | .inl (a0,a1,a2)=>(.tup [],[.box 135 (capp (zaR a0 (.sl 3 ((γ 3)))) (capp (cJob a1) ([.sl 2 ((γ 2))]))),.row 84 (γ 1) true (List.map zae a2),.row 56 (γ 2) false (List.map eOut r2),.row 84 (γ 3) false (List.map zae a0.fingers)])
 | .inr (b0,b1,b2,b3)=>(.tup [],[.box 135 (capp (zam b0) (capp (cJob b1) ([.sl 2 ((γ 2))]))),.row 84 (γ 1) true (List.map zae b2),.row 56 (γ 2) false (List.map eOut b3)])
instance {r2}:InjS (zdV r2):=⟨fun γ γ' x y h=>by
 rcases x with ⟨a0,a1,a2⟩ | ⟨b0,b1,b2,b3⟩ <;> rcases y with ⟨a0',a1',a2'⟩ | ⟨b0',b1',b2',b3'⟩ <;> simp only [zdV] at h <;> exact inj_⟩
def zkZ (why:Int) (b0_node:Node) (b0_job:Job) (r2:List Out):Option (zf3):=asks (fun γ=>(lim F pr).call 96 [.bptr 0 0,vI why] [.box 135 (capp (zaR b0_node (.sl 1 (γ 1))) (capp (cJob b0_job) ([.sl 2 (γ 2)]))),.row 84 (γ 1) false (List.map zae b0_node.fingers),.row 56 (γ 2) false (List.map eOut r2)]) (zdV r2)
abbrev zjh:=(Int × Int × Int × Bool × (List Entry) × (List Entry) × (List Pair) × (List Pend) × (List Job) × (List Result) × Int × Int × Int)
def zcO (b0_node:Node) (b0_job:Job) (r2:List Out) (γ:Nat → Nat):zjh → AV × Store
 | (a0,a1,a2,a3,a4,a5,a6,a7,a8,a9,a10,a11,a12)=>(.tup [.agg [vU a0,vH a1,vI a2,vF a3,.lit 81 false (List.map zat a4),.lit 81 false (List.map zat a5),.sl 1 ((γ 1)),.lit 78 false (List.map zan a6),.lit 88 false (List.map zaX a7),.lit 67 false (List.map eJob a8),.lit 60 false (List.map zal a9),vW a10,vI a11,vI a12],.sl 2 ((γ 2))],[.box 135 (capp (zaR b0_node (.sl 1 ((γ 1)))) (capp (cJob b0_job) ([.sl 2 ((γ 2))]))),.row 84 (γ 1) false (List.map zae b0_node.fingers),.row 56 (γ 2) false (List.map eOut r2)])
instance {b0_node b0_job r2}:InjS (zcO b0_node b0_job r2):=⟨fun γ γ' x y h=>by
 rcases x with ⟨a0,a1,a2,a3,a4,a5,a6,a7,a8,a9,a10,a11,a12⟩ <;> rcases y with ⟨a0',a1',a2',a3',a4',a5',a6',a7',a8',a9',a10',a11',a12'⟩ <;> simp only [zcO] at h <;> exact inj_⟩
def zfH (b0_node:Node) (b0_job:Job) (r2:List Out):Option (zjh):=asks (fun γ=>(lim F pr).call 97 [.bptr 0 0] [.box 135 (capp (zaR b0_node (.sl 1 (γ 1))) (capp (cJob b0_job) ([.sl 2 (γ 2)]))),.row 84 (γ 1) false (List.map zae b0_node.fingers),.row 56 (γ 2) false (List.map eOut r2)]) (zcO b0_node b0_job r2)
def zcm (b0_node:Node) (b0_job:Job) (r1:List Out) (γ:Nat → Nat):Node → AV × Store
 | a0=>(.tup [zaJ a0,.sl 1 ((γ 1))],[.box 135 (capp (zam b0_node) (capp (cJob b0_job) ([.sl 1 ((γ 1))]))),.row 56 (γ 1) false (List.map eOut r1)])
instance {b0_node b0_job r1}:InjS (zcm b0_node b0_job r1):=⟨fun γ γ' x y h=>by
 rcases x with a0 <;> rcases y with a0' <;> simp only [zcm] at h <;> exact inj_⟩
def zfZ (b0_node:Node) (b0_job:Job) (r1:List Out):Option (Node):=asks (fun γ=>(lim F pr).call 97 [.bptr 0 0] [.box 135 (capp (zam b0_node) (capp (cJob b0_job) ([.sl 1 (γ 1)]))),.row 56 (γ 1) false (List.map eOut r1)]) (zcm b0_node b0_job r1)
def zhn (s:ByteArray) (at_:Int):Option (Int):=ask (R1 vI) ((lim F pr).call 153 [vT s,vI at_] [])
def zsW (s:ByteArray):Option (Bool):=ask (R1 vF) ((lim F pr).call 83 [vT s] [])
def zsV (s:ByteArray):Option (Int):=ask (R1 vI) ((lim F pr).call 84 [vT s] [])
def zur (s:ByteArray):Option (Int):=ask (R1 vU) ((lim F pr).call 156 [vT s] [])
def zuq (u:Int):Option (Int):=ask (R1 vU) ((lim F pr).call 155 [vU u] [])
def zus (n:Node) (j:Job):Option ((Node × Int × Int)):=ask (R3 zaJ vI vI) ((lim F pr).call 154 [zaJ n,eJob j] [])
def zs5 (n:Node) (id:Int):Option ((Node × (List Out))):=ask (R2 zaJ (eL 56 eOut)) ((lim F pr).call 41 [zaJ n,vI id] [])
def zwI (s:ByteArray):Option (Int):=ask (R1 vU) ((lim F pr).call 159 [vT s] [])
def zwH (u:Int):Option (Int):=ask (R1 vU) ((lim F pr).call 158 [vU u] [])
def zwO (n:Node) (j:Job):Option ((Node × Int × Int)):=ask (R3 zaJ vI vI) ((lim F pr).call 157 [zaJ n,eJob j] [])
def zuF (n:Node) (id:Int):Option ((Node × (List Out))):=ask (R2 zaJ (eL 56 eOut)) ((lim F pr).call 42 [zaJ n,vI id] [])
def zgb (b0:Int):Bool → AV × Store
 | a0=>(vF a0,[.box 3 [vI b0]])
instance {b0}:Inj (zgb b0):=⟨fun x y h=>by
 rcases x with a0 <;> rcases y with a0' <;> simp only [zgb] at h <;> exact inj_⟩
def zoc (j:Job) (b0:Int):Option (Bool):=ask (zgb b0) ((lim F pr).call 161 [eJob j,.bptr 0 0] [.box 3 [vI b0]])
def zeg (b0:Int):Int → AV × Store
 | a0=>(vI a0,[.box 3 [vI b0]])
instance {b0}:Inj (zeg b0):=⟨fun x y h=>by
 rcases x with a0 <;> rcases y with a0' <;> simp only [zeg] at h <;> exact inj_⟩
def zlH (s:List Job) (b0:Int):Option (Int):=ask (zeg b0) ((lim F pr).call 209 [.lit 67 false (List.map eJob s),.fn 161 [.bptr 0 0]] [.box 3 [vI b0]])
def zcY (b0:Int):Bool → AV × Store
 | a0=>(vF a0,[.box 3 [vI b0]])
instance {b0}:Inj (zcY b0):=⟨fun x y h=>by
 rcases x with a0 <;> rcases y with a0' <;> simp only [zcY] at h <;> exact inj_⟩
def zmx (s:List Job) (b0:Int):Option (Bool):=ask (zcY b0) ((lim F pr).call 160 [.lit 67 false (List.map eJob s),.fn 161 [.bptr 0 0]] [.box 3 [vI b0]])
def znP (a:List Peer) (b:List Peer):Option (Bool):=ask (R1 vF) ((lim F pr).call 140 [.lit 25 false (List.map zai a),.lit 25 false (List.map zai b)] [])
def zgc (b0:Int):Bool → AV × Store
 | a0=>(vF a0,[.box 3 [vI b0]])
instance {b0}:Inj (zgc b0):=⟨fun x y h=>by
 rcases x with a0 <;> rcases y with a0' <;> simp only [zgc] at h <;> exact inj_⟩
def zoe (j:Job) (b0:Int):Option (Bool):=ask (zgc b0) ((lim F pr).call 210 [eJob j,.bptr 0 0] [.box 3 [vI b0]])
def zdw (b0:Int):Int → AV × Store
 | a0=>(vI a0,[.box 3 [vI b0]])
instance {b0}:Inj (zdw b0):=⟨fun x y h=>by
 rcases x with a0 <;> rcases y with a0' <;> simp only [zdw] at h <;> exact inj_⟩
def zno (s:List Job) (b0:Int):Option (Int):=ask (zdw b0) ((lim F pr).call 209 [.lit 67 false (List.map eJob s),.fn 210 [.bptr 0 0]] [.box 3 [vI b0]])
def zg4 (γ:Nat → Nat):(List Job) → AV × Store
 | a0=>(.sl 0 ((γ 0)),[.row 67 (γ 0) false (List.map eJob a0)])
instance :InjS zg4:=⟨fun γ γ' x y h=>by
 rcases x with a0 <;> rcases y with a0' <;> simp only [zg4] at h <;> exact inj_⟩
def zpE (i:Int) (j:Int) (r0:List Job):Option ((List Job)):=asks (fun γ=>(lim F pr).call 219 [.sl 0 (γ 0),vI i,vI j] [.row 67 (γ 0) false (List.map eJob r0)]) zg4
def ziw (za0:Int) (zaN:Int) (zaZ:Int) (zaW:Bool) (zba:Int) (zaM:Int) (zaO:Int) (r1:List Entry) (r2:List Entry) (r3:List Finger) (r4:List Pair) (r5:List Pend) (r6:List Job) (r7:List Result) (γ:Nat → Nat):((List Result) × (List Result)) ⊕ Unit → AV × Store
 | .inl (a0,a1)=>(.tup [],[.box 34 [vU za0,vH zaN,vI zaZ,vF zaW,.sl 1 ((γ 1)),.sl 2 ((γ 2)),.sl 3 ((γ 3)),.sl 4 ((γ 4)),.sl 5 ((γ 5)),.sl 6 ((γ 6)),.sl 8 ((γ 8)),vW zba,vI zaM,vI zaO],.row 81 (γ 1) false (List.map zat r1),.row 81 (γ 2) false (List.map zat r2),.row 84 (γ 3) false (List.map zae r3),.row 78 (γ 4) false (List.map zan r4),.row 88 (γ 5) false (List.map zaX r5),.row 67 (γ 6) false (List.map eJob r6),.row 60 (γ 7) false (List.map zal a0),.row 60 (γ 8) false (List.map zal a1)])
 | .inr ()=>(.tup [],[.box 34 [vU za0,vH zaN,vI zaZ,vF zaW,.sl 1 ((γ 1)),.sl 2 ((γ 2)),.sl 3 ((γ 3)),.sl 4 ((γ 4)),.sl 5 ((γ 5)),.sl 6 ((γ 6)),.sl 7 ((γ 7)),vW zba,vI zaM,vI zaO],.row 81 (γ 1) false (List.map zat r1),.row 81 (γ 2) false (List.map zat r2),.row 84 (γ 3) false (List.map zae r3),.row 78 (γ 4) false (List.map zan r4),.row 88 (γ 5) false (List.map zaX r5),.row 67 (γ 6) false (List.map eJob r6),.row 60 (γ 7) false (List.map zal r7)])
instance {za0 zaN zaZ zaW zba zaM zaO r1 r2 r3 r4 r5 r6 r7}:InjS (ziw za0 zaN zaZ zaW zba zaM zaO r1 r2 r3 r4 r5 r6 r7):=⟨fun γ γ' x y h=>by
 rcases x with ⟨a0,a1⟩ | _ <;> rcases y with ⟨a0',a1'⟩ | _ <;> simp only [ziw] at h <;> exact inj_⟩
def zr6 (j:Job) (has:Bool) (val:ByteArray) (e_:Int) (za0:Int) (zaN:Int) (zaZ:Int) (zaW:Bool) (zba:Int) (zaM:Int) (zaO:Int) (r1:List Entry) (r2:List Entry) (r3:List Finger) (r4:List Pair) (r5:List Pend) (r6:List Job) (r7:List Result):Option (((List Result) × (List Result)) ⊕ Unit):=asks (fun γ=>(lim F pr).call 220 [.bptr 0 0,eJob j,vF has,vT val,vI e_] [.box 34 [vU za0,vH zaN,vI zaZ,vF zaW,.sl 1 (γ 1),.sl 2 (γ 2),.sl 3 (γ 3),.sl 4 (γ 4),.sl 5 (γ 5),.sl 6 (γ 6),.sl 7 (γ 7),vW zba,vI zaM,vI zaO],.row 81 (γ 1) false (List.map zat r1),.row 81 (γ 2) false (List.map zat r2),.row 84 (γ 3) false (List.map zae r3),.row 78 (γ 4) false (List.map zan r4),.row 88 (γ 5) false (List.map zaX r5),.row 67 (γ 6) false (List.map eJob r6),.row 60 (γ 7) false (List.map zal r7)]) (ziw za0 zaN zaZ zaW zba zaM zaO r1 r2 r3 r4 r5 r6 r7)
def zuu (m:Msg):Option (Msg):=ask (R1 eMsg) ((lim F pr).call 149 [eMsg m] [])
def zqi (n:Node):Option (Int):=ask (R1 vI) ((lim F pr).call 150 [zaJ n] [])
def zjK (l:List Entry):Option ((List Peer)):=ask (K1 25 zai) ((lim F pr).call 76 [.lit 81 false (List.map zat l)] [])
def zjA (a:Int) (x:Int) (b:Int):Option (Bool):=ask (R1 vF) ((lim F pr).call 190 [vU a,vU x,vU b] [])
def zm6 (n:Node) (key:Int):Option (Bool):=ask (R1 vF) ((lim F pr).call 191 [zaJ n,vU key] [])
def zpW (me:Peer) (l:List Entry) (f:List Finger) (key:Int) (most:Int):Option ((List Peer)):=ask (R1 (eL 25 zai)) ((lim F pr).call 192 [zai me,.lit 81 false (List.map zat l),.lit 84 false (List.map zae f),vU key,vI most] [])
def zf6 (b0:Int):Bool → AV × Store
 | a0=>(vF a0,[.box 3 [vI b0]])
instance {b0}:Inj (zf6 b0):=⟨fun x y h=>by
 rcases x with a0 <;> rcases y with a0' <;> simp only [zf6] at h <;> exact inj_⟩
def zn9 (f:Finger) (b0:Int):Option (Bool):=ask (zf6 b0) ((lim F pr).call 234 [zae f,.bptr 0 0] [.box 3 [vI b0]])
def zcr (r0:List Finger) (b1:Int) (γ:Nat → Nat):Int → AV × Store
 | a0=>(vI a0,[.row 84 (γ 0) false (List.map zae r0),.box 3 [vI b1]])
instance {r0 b1}:InjS (zcr r0 b1):=⟨fun γ γ' x y h=>by
 rcases x with a0 <;> rcases y with a0' <;> simp only [zcr] at h <;> exact inj_⟩
def zg5 (r0:List Finger) (b1:Int):Option (Int):=askg (fun γ=>(lim F pr).call 233 [.sl 0 (γ 0),.fn 234 [.bptr 1 0]] [.row 84 (γ 0) false (List.map zae r0),.box 3 [vI b1]]) (zcr r0 b1)
def zf7 (b0:Int):Bool → AV × Store
 | a0=>(vF a0,[.box 3 [vI b0]])
instance {b0}:Inj (zf7 b0):=⟨fun x y h=>by
 rcases x with a0 <;> rcases y with a0' <;> simp only [zf7] at h <;> exact inj_⟩
def zoa (f:Finger) (b0:Int):Option (Bool):=ask (zf7 b0) ((lim F pr).call 235 [zae f,.bptr 0 0] [.box 3 [vI b0]])
def zcs (r0:List Finger) (b1:Int) (γ:Nat → Nat):Int → AV × Store
 | a0=>(vI a0,[.row 84 (γ 0) false (List.map zae r0),.box 3 [vI b1]])
instance {r0 b1}:InjS (zcs r0 b1):=⟨fun γ γ' x y h=>by
 rcases x with a0 <;> rcases y with a0' <;> simp only [zcs] at h <;> exact inj_⟩
def zg6 (r0:List Finger) (b1:Int):Option (Int):=askg (fun γ=>(lim F pr).call 233 [.sl 0 (γ 0),.fn 235 [.bptr 1 0]] [.row 84 (γ 0) false (List.map zae r0),.box 3 [vI b1]]) (zcs r0 b1)
def zsT (l:List Pair) (key:ByteArray) (val:ByteArray):Option (((List Pair) × Int)):=ask (R2 (eL 78 zan) vI) ((lim F pr).call 75 [.lit 78 false (List.map zan l),vT key,vT val] [])
def zqS (n:Node) (to_:Peer) (l:List Pair) (fresh:Bool):Option ((Node × (List Out))):=ask (R2 zaJ (eL 56 eOut)) ((lim F pr).call 22 [zaJ n,zai to_,.lit 78 false (List.map zan l),vF fresh] [])
def zlk (l:List Pair) (key:ByteArray):Option (Int):=ask (R1 vI) ((lim F pr).call 141 [.lit 78 false (List.map zan l),vT key] [])
def zho (c:Int):Option (Bool):=ask (R1 vF) ((lim F pr).call 207 [vB c] [])
def zsX (s:ByteArray) (at_:Int) (c:Int):Option (Bool):=ask (R1 vF) ((lim F pr).call 152 [vT s,vI at_,vR c] [])
def zhq (u:Int) (by_:Int):Option (Int):=ask (R1 vU) ((lim F pr).call 208 [vU u,vI by_] [])
def ztL (n:Node):Option (Int):=ask (R1 vI) ((lim F pr).call 151 [zaJ n] [])
def zsK (n:Node) (id:Int):Option (Int):=ask (R1 vI) ((lim F pr).call 110 [zaJ n,vI id] [])
def zuG (n:Node) (j:Job):Option ((Node × (List Out))):=ask (R2 zaJ (eL 56 eOut)) ((lim F pr).call 111 [zaJ n,eJob j] [])
def zsi (l:List Entry):Option ((List Peer)):=ask (K1 25 zai) ((lim F pr).call 145 [.lit 81 false (List.map zat l),.fn 146 []] [])
def zhG (a:Int) (x:Int) (b:Int):Option (Bool):=ask (R1 vF) ((lim F pr).call 128 [vU a,vU x,vU b] [])
def ze3 (zbi:Int) (za5:Int):Bool → AV × Store
 | a0=>(vF a0,[.box 25 [vU zbi,vH za5]])
instance {zbi za5}:Inj (ze3 zbi za5):=⟨fun x y h=>by
 rcases x with a0 <;> rcases y with a0' <;> simp only [ze3] at h <;> exact inj_⟩
def zmJ (q:Peer) (zbi:Int) (za5:Int):Option (Bool):=ask (ze3 zbi za5) ((lim F pr).call 221 [zai q,.bptr 0 0] [.box 25 [vU zbi,vH za5]])
def zdN (zbi:Int) (za5:Int):Int → AV × Store
 | a0=>(vI a0,[.box 25 [vU zbi,vH za5]])
instance {zbi za5}:Inj (zdN zbi za5):=⟨fun x y h=>by
 rcases x with a0 <;> rcases y with a0' <;> simp only [zdN] at h <;> exact inj_⟩
def zkm (s:List Peer) (zbi:Int) (za5:Int):Option (Int):=ask (zdN zbi za5) ((lim F pr).call 178 [.lit 25 false (List.map zai s),.fn 221 [.bptr 0 0]] [.box 25 [vU zbi,vH za5]])
def zgF (b0:ByteArray):Bool → AV × Store
 | a0=>(vF a0,[.box 9 [vT b0]])
instance {b0}:Inj (zgF b0):=⟨fun x y h=>by
 rcases x with a0 <;> rcases y with a0' <;> simp only [zgF] at h <;> exact inj_⟩
def zoK (p:Pair) (b0:ByteArray):Option (Bool):=ask (zgF b0) ((lim F pr).call 143 [zan p,.bptr 0 0] [.box 9 [vT b0]])
def zc2 (b0:ByteArray):Int → AV × Store
 | a0=>(vI a0,[.box 9 [vT b0]])
instance {b0}:Inj (zc2 b0):=⟨fun x y h=>by
 rcases x with a0 <;> rcases y with a0' <;> simp only [zc2] at h <;> exact inj_⟩
def zi8 (s:List Pair) (b0:ByteArray):Option (Int):=ask (zc2 b0) ((lim F pr).call 142 [.lit 78 false (List.map zan s),.fn 143 [.bptr 0 0]] [.box 9 [vT b0]])
def zez (b0:ByteArray):Bool → AV × Store
 | a0=>(vF a0,[.box 9 [vT b0]])
instance {b0}:Inj (zez b0):=⟨fun x y h=>by
 rcases x with a0 <;> rcases y with a0' <;> simp only [zez] at h <;> exact inj_⟩
def zi2 (p:Pair) (b0:ByteArray):Option (Bool):=ask (zez b0) ((lim F pr).call 202 [zan p,.bptr 0 0] [.box 9 [vT b0]])
def zc3 (b0:ByteArray):Int → AV × Store
 | a0=>(vI a0,[.box 9 [vT b0]])
instance {b0}:Inj (zc3 b0):=⟨fun x y h=>by
 rcases x with a0 <;> rcases y with a0' <;> simp only [zc3] at h <;> exact inj_⟩
def zmz (s:List Pair) (b0:ByteArray):Option (Int):=ask (zc3 b0) ((lim F pr).call 142 [.lit 78 false (List.map zan s),.fn 202 [.bptr 0 0]] [.box 9 [vT b0]])
def zqM (n:Node) (j:Job) (to_:Peer):Option ((Node × (List Out))):=ask (R2 zaJ (eL 56 eOut)) ((lim F pr).call 118 [zaJ n,eJob j,zai to_] [])
def zuB (n:Node) (key:Int):Option ((Peer × (List Peer) × Bool)):=ask (R3 zai (eL 25 zai) vF) ((lim F pr).call 63 [zaJ n,vU key] [])
def zwR (n:Node) (j:Job) (owner:Peer):Option ((Node × (List Out))):=ask (R2 zaJ (eL 56 eOut)) ((lim F pr).call 115 [zaJ n,eJob j,zai owner] [])
def zqg (x:Entry):Option (Bool):=ask (R1 vF) ((lim F pr).call 146 [zat x] [])
def zlB (a:Int) (b:Int):Option (Int):=ask (R1 vU) ((lim F pr).call 166 [vU a,vU b] [])
def zh8 (n:Node) (j:Job):Option (Node):=ask (R1 zaJ) ((lim F pr).call 180 [zaJ n,eJob j] [])
def zmt (n:Node) (to_:Peer) (m:Msg) (why:Int) (job:Int):Option ((Node × (List Out))):=ask (R2 zaJ (eL 56 eOut)) ((lim F pr).call 82 [zaJ n,zai to_,eMsg m,vI why,vI job] [])
def zmT (l:List Entry):Option ((List Peer)):=ask (K1 25 zai) ((lim F pr).call 78 [.lit 81 false (List.map zat l)] [])
def zmS (a:Int) (x:Int) (b:Int):Option (Bool):=ask (R1 vF) ((lim F pr).call 134 [vU a,vU x,vU b] [])
def zux (me:Peer) (l:List Entry) (f:List Finger) (key:Int) (most:Int):Option ((List Peer)):=ask (R1 (eL 25 zai)) ((lim F pr).call 135 [zai me,.lit 81 false (List.map zat l),.lit 84 false (List.map zae f),vU key,vI most] [])
def ztM (n:Node) (j:Job) (to_:Peer):Option ((Node × (List Out))):=ask (R2 zaJ (eL 56 eOut)) ((lim F pr).call 181 [zaJ n,eJob j,zai to_] [])
def zuD (n:Node) (key:ByteArray) (val:ByteArray):Option ((Node × (List Out) × Int)):=ask (R3 zaJ (eL 56 eOut) vI) ((lim F pr).call 21 [zaJ n,vT key,vT val] [])
def zdG (n:Node) (j:Job) (has:Bool) (val:ByteArray) (e_:Int):Option (Node):=ask (R1 zaJ) ((lim F pr).call 117 [zaJ n,eJob j,vF has,vT val,vI e_] [])
def zwL (l:List Pair) (key:ByteArray):Option ((ByteArray × Bool)):=ask (R2 vT vF) ((lim F pr).call 68 [.lit 78 false (List.map zan l),vT key] [])
def zwK (l:List Finger) (bit:Int) (p:Peer):Option ((List Finger)):=ask (R1 (eL 84 zae)) ((lim F pr).call 182 [.lit 84 false (List.map zae l),vI bit,zai p] [])
def zst (l:List Peer) (addr:Int):Option (Bool):=ask (R1 vF) ((lim F pr).call 200 [.lit 25 false (List.map zai l),vH addr] [])
def zol (a:Int) (x:Int) (b:Int):Option (Bool):=ask (R1 vF) ((lim F pr).call 116 [vU a,vU x,vU b] [])
def zql (a:Int) (b:Int):Option (Int):=ask (R1 vU) ((lim F pr).call 201 [vU a,vU b] [])
def zwM (l:List Pair) (key:ByteArray) (val:ByteArray):Option (((List Pair) × Int)):=ask (R2 (eL 78 zan) vI) ((lim F pr).call 77 [.lit 78 false (List.map zan l),vT key,vT val] [])
def zuC (n:Node) (to_:Peer) (l:List Pair) (fresh:Bool):Option ((Node × (List Out))):=ask (R2 zaJ (eL 56 eOut)) ((lim F pr).call 23 [zaJ n,zai to_,.lit 78 false (List.map zan l),vF fresh] [])
def zqD (n:Node) (id:Int) (has:Bool) (val:ByteArray) (e_:Int):Option (Node):=ask (R1 zaJ) ((lim F pr).call 183 [zaJ n,vI id,vF has,vT val,vI e_] [])
def znT (l:List Pair) (key:ByteArray):Option (Int):=ask (R1 vI) ((lim F pr).call 139 [.lit 78 false (List.map zan l),vT key] [])
def zwJ (l:List Finger) (bit:Int):Option ((Peer × Bool)):=ask (R2 zai vF) ((lim F pr).call 216 [.lit 84 false (List.map zae l),vI bit] [])
def zqq (a:ByteArray) (b:ByteArray):Option (Bool):=ask (R1 vF) ((lim F pr).call 147 [vT a,vT b] [])
def zuA (l:List Result) (j:Job) (has:Bool) (val:ByteArray) (e_:Int):Option ((List Result)):=ask (R1 (eL 60 zal)) ((lim F pr).call 217 [.lit 60 false (List.map zal l),eJob j,vF has,vT val,vI e_] [])
def zoD (l:List Job) (at_:Int):Option ((List Job)):=ask (R1 (eL 67 eJob)) ((lim F pr).call 218 [.lit 67 false (List.map eJob l),vI at_] [])
end Go.Ab.Tryz
namespace Go.Ab.Tryz
open Go Go.Ab Go.Proofs
set_option maxRecDepth 10000
set_option maxHeartbeats 4000000
open Go.ChangeShapes Go.WideShapes
def Peer.Ok (x:Peer):Prop:=OkU x.id ∧ OkH x.addr
theorem rd25 {H:Type} {enc:TypeId × Value → H} {w:World} {base:Nat} {spare:Nat → Bool} {held:Bool} {fuel:Nat} {cs:List Value} {x:DataW H × List MemPlace} (h:DataW.trod enc Tryz.prog w base spare held fuel 25 cs=some x):∃ a,Rd Tryz.prog w zai Peer.Ok cs a:=by
 obtain ⟨xs,n,rfl,rfl,hl,hxl,hf⟩:=DataW.trod_struct Tryz.underlying25 h
 have hc:cs.length=2:=hl.trans (by kernel_rfl)
 have hx:xs.length=2:=hxl
 match cs,hc with
 | [c0,c1],_=>
  match xs,hx with
  | [x0,x1],_=>
   have h0:DataW.trod enc Tryz.prog w base spare held n 22 [c0]=some x0:=hf 0 _ rfl
   obtain ⟨a0,d0,o0,k0⟩:=zFu Tryz.underlying22 h0
   have h1:DataW.trod enc Tryz.prog w base spare held n 23 [c1]=some x1:=hf 1 _ rfl
   obtain ⟨a1,d1,o1,k1⟩:=zLD Tryz.underlying23 h1
   refine ⟨⟨a0,a1⟩,(d0.append d1),fun c hc=>?_,k0,k1⟩
   have hc:c ∈ (vU a0).cells ++ ((vH a1).cells):=hc
   simp only [List.mem_append] at hc
   rcases hc with hc | hc
   ·exact o0 c hc
   ·exact o1 c hc
theorem arg25 {H:Type} {enc:TypeId × Value → H} {w:World} {base:Nat} {spare:Nat → Bool} {held:Bool} {r:Reach} {b0:Nat} {v:Value} {d:DataW H} {ps:List MemPlace} (hval:Value.okWide Tryz.prog w r b0 25 v) (h:DataW.Trod enc Tryz.prog w base spare held 25 v d ps):∃ a,DL Tryz.prog w (fun _=>False) [zai a] [v] ∧ Peer.Ok a:=
 zu1 (fun _=>⟨_,rfl⟩) Tryz.underlying25 hval (let ⟨_,hf⟩:=h;rd25 hf)
def Entry.Ok (x:Entry):Prop:=Peer.Ok x.peer ∧ OkI x.misses
theorem rd81 {H:Type} {enc:TypeId × Value → H} {w:World} {base:Nat} {spare:Nat → Bool} {held:Bool} {fuel:Nat} {cs:List Value} {x:DataW H × List MemPlace} (h:DataW.trod enc Tryz.prog w base spare held fuel 81 cs=some x):∃ a,Rd Tryz.prog w zat Entry.Ok cs a:=by
 obtain ⟨xs,n,rfl,rfl,hl,hxl,hf⟩:=DataW.trod_struct Tryz.underlying81 h
 have hc:cs.length=3:=hl.trans (by kernel_rfl)
 have hx:xs.length=2:=hxl
 match cs,hc with
 | [c0,c1,c2],_=>
  match xs,hx with
  | [x0,x1],_=>
   have h0:DataW.trod enc Tryz.prog w base spare held n 25 [c0,c1]=some x0:=hf 0 _ rfl
   obtain ⟨a0,d0,o0,k0⟩:=rd25 h0
   have h1:DataW.trod enc Tryz.prog w base spare held n 3 [c2]=some x1:=hf 1 _ rfl
   obtain ⟨a1,d1,o1,k1⟩:=zcJ Tryz.underlying3 h1
   refine ⟨⟨a0,a1⟩,(d0.append d1),fun c hc=>?_,k0,k1⟩
   have hc:c ∈ (zai a0).cells ++ ((vI a1).cells):=hc
   simp only [List.mem_append] at hc
   rcases hc with hc | hc
   ·exact o0 c hc
   ·exact o1 c hc
def Finger.Ok (x:Finger):Prop:=OkI x.bit ∧ Peer.Ok x.peer
theorem rd84 {H:Type} {enc:TypeId × Value → H} {w:World} {base:Nat} {spare:Nat → Bool} {held:Bool} {fuel:Nat} {cs:List Value} {x:DataW H × List MemPlace} (h:DataW.trod enc Tryz.prog w base spare held fuel 84 cs=some x):∃ a,Rd Tryz.prog w zae Finger.Ok cs a:=by
 obtain ⟨xs,n,rfl,rfl,hl,hxl,hf⟩:=DataW.trod_struct Tryz.underlying84 h
 have hc:cs.length=3:=hl.trans (by kernel_rfl)
 have hx:xs.length=2:=hxl
 match cs,hc with
 | [c0,c1,c2],_=>
  match xs,hx with
  | [x0,x1],_=>
   have h0:DataW.trod enc Tryz.prog w base spare held n 3 [c0]=some x0:=hf 0 _ rfl
   obtain ⟨a0,d0,o0,k0⟩:=zcJ Tryz.underlying3 h0
   have h1:DataW.trod enc Tryz.prog w base spare held n 25 [c1,c2]=some x1:=hf 1 _ rfl
   obtain ⟨a1,d1,o1,k1⟩:=rd25 h1
   refine ⟨⟨a0,a1⟩,(d0.append d1),fun c hc=>?_,k0,k1⟩
   have hc:c ∈ (vI a0).cells ++ ((zai a1).cells):=hc
   simp only [List.mem_append] at hc
   rcases hc with hc | hc
   ·exact o0 c hc
   ·exact o1 c hc
def Pair.Ok (x:Pair):Prop:=OkT x.key ∧ OkT x.val
theorem rd78 {H:Type} {enc:TypeId × Value → H} {w:World} {base:Nat} {spare:Nat → Bool} {held:Bool} {fuel:Nat} {cs:List Value} {x:DataW H × List MemPlace} (h:DataW.trod enc Tryz.prog w base spare held fuel 78 cs=some x):∃ a,Rd Tryz.prog w zan Pair.Ok cs a:=by
 obtain ⟨xs,n,rfl,rfl,hl,hxl,hf⟩:=DataW.trod_struct Tryz.underlying78 h
 have hc:cs.length=2:=hl.trans (by kernel_rfl)
 have hx:xs.length=2:=hxl
 match cs,hc with
 | [c0,c1],_=>
  match xs,hx with
  | [x0,x1],_=>
   have h0:DataW.trod enc Tryz.prog w base spare held n 9 [c0]=some x0:=hf 0 _ rfl
   obtain ⟨a0,d0,o0,k0⟩:=zjz Tryz.underlying9 h0
   have h1:DataW.trod enc Tryz.prog w base spare held n 9 [c1]=some x1:=hf 1 _ rfl
   obtain ⟨a1,d1,o1,k1⟩:=zjz Tryz.underlying9 h1
   refine ⟨⟨a0,a1⟩,(d0.append d1),fun c hc=>?_,k0,k1⟩
   have hc:c ∈ (vT a0).cells ++ ((vT a1).cells):=hc
   simp only [List.mem_append] at hc
   rcases hc with hc | hc
   ·exact o0 c hc
   ·exact o1 c hc
def Pend.Ok (x:Pend):Prop:=OkW x.rid ∧ OkI x.kind ∧ OkI x.why ∧ OkI x.job ∧ Peer.Ok x.to_ ∧ OkI x.due
theorem rd88 {H:Type} {enc:TypeId × Value → H} {w:World} {base:Nat} {spare:Nat → Bool} {held:Bool} {fuel:Nat} {cs:List Value} {x:DataW H × List MemPlace} (h:DataW.trod enc Tryz.prog w base spare held fuel 88 cs=some x):∃ a,Rd Tryz.prog w zaX Pend.Ok cs a:=by
 obtain ⟨xs,n,rfl,rfl,hl,hxl,hf⟩:=DataW.trod_struct Tryz.underlying88 h
 have hc:cs.length=7:=hl.trans (by kernel_rfl)
 have hx:xs.length=6:=hxl
 match cs,hc with
 | [c0,c1,c2,c3,c4,c5,c6],_=>
  match xs,hx with
  | [x0,x1,x2,x3,x4,x5],_=>
   have h0:DataW.trod enc Tryz.prog w base spare held n 32 [c0]=some x0:=hf 0 _ rfl
   obtain ⟨a0,d0,o0,k0⟩:=zFt Tryz.underlying32 h0
   have h1:DataW.trod enc Tryz.prog w base spare held n 3 [c1]=some x1:=hf 1 _ rfl
   obtain ⟨a1,d1,o1,k1⟩:=zcJ Tryz.underlying3 h1
   have h2:DataW.trod enc Tryz.prog w base spare held n 3 [c2]=some x2:=hf 2 _ rfl
   obtain ⟨a2,d2,o2,k2⟩:=zcJ Tryz.underlying3 h2
   have h3:DataW.trod enc Tryz.prog w base spare held n 3 [c3]=some x3:=hf 3 _ rfl
   obtain ⟨a3,d3,o3,k3⟩:=zcJ Tryz.underlying3 h3
   have h4:DataW.trod enc Tryz.prog w base spare held n 25 [c4,c5]=some x4:=hf 4 _ rfl
   obtain ⟨a4,d4,o4,k4⟩:=rd25 h4
   have h5:DataW.trod enc Tryz.prog w base spare held n 3 [c6]=some x5:=hf 5 _ rfl
   obtain ⟨a5,d5,o5,k5⟩:=zcJ Tryz.underlying3 h5
   refine ⟨⟨a0,a1,a2,a3,a4,a5⟩,(d0.append (d1.append (d2.append (d3.append (d4.append d5))))),fun c hc=>?_,k0,k1,k2,k3,k4,k5⟩
   have hc:c ∈ (vW a0).cells ++ ((vI a1).cells ++ ((vI a2).cells ++ ((vI a3).cells ++ ((zai a4).cells ++ ((vI a5).cells))))):=hc
   simp only [List.mem_append] at hc
   rcases hc with hc | hc | hc | hc | hc | hc
   ·exact o0 c hc
   ·exact o1 c hc
   ·exact o2 c hc
   ·exact o3 c hc
   ·exact o4 c hc
   ·exact o5 c hc
def Job.Ok (x:Job):Prop:=OkI x.id ∧ OkI x.kind ∧ OkI x.bit ∧ OkT x.key ∧ OkT x.val ∧ OkU x.target ∧ Peer.Ok x.via ∧ Peer.Ok x.at_ ∧ OkF x.doing ∧ OkI x.hops ∧ OkI x.tries ∧ OkI x.due
theorem rd67 {H:Type} {enc:TypeId × Value → H} {w:World} {base:Nat} {spare:Nat → Bool} {held:Bool} {fuel:Nat} {cs:List Value} {x:DataW H × List MemPlace} (h:DataW.trod enc Tryz.prog w base spare held fuel 67 cs=some x):∃ a,Rd Tryz.prog w eJob Job.Ok cs a:=by
 obtain ⟨xs,n,rfl,rfl,hl,hxl,hf⟩:=DataW.trod_struct Tryz.underlying67 h
 have hc:cs.length=14:=hl.trans (by kernel_rfl)
 have hx:xs.length=12:=hxl
 match cs,hc with
 | [c0,c1,c2,c3,c4,c5,c6,c7,c8,c9,c10,c11,c12,c13],_=>
  match xs,hx with
  | [x0,x1,x2,x3,x4,x5,x6,x7,x8,x9,x10,x11],_=>
   have h0:DataW.trod enc Tryz.prog w base spare held n 3 [c0]=some x0:=hf 0 _ rfl
   obtain ⟨a0,d0,o0,k0⟩:=zcJ Tryz.underlying3 h0
   have h1:DataW.trod enc Tryz.prog w base spare held n 3 [c1]=some x1:=hf 1 _ rfl
   obtain ⟨a1,d1,o1,k1⟩:=zcJ Tryz.underlying3 h1
   have h2:DataW.trod enc Tryz.prog w base spare held n 3 [c2]=some x2:=hf 2 _ rfl
   obtain ⟨a2,d2,o2,k2⟩:=zcJ Tryz.underlying3 h2
   have h3:DataW.trod enc Tryz.prog w base spare held n 9 [c3]=some x3:=hf 3 _ rfl
   obtain ⟨a3,d3,o3,k3⟩:=zjz Tryz.underlying9 h3
   have h4:DataW.trod enc Tryz.prog w base spare held n 9 [c4]=some x4:=hf 4 _ rfl
   obtain ⟨a4,d4,o4,k4⟩:=zjz Tryz.underlying9 h4
   have h5:DataW.trod enc Tryz.prog w base spare held n 22 [c5]=some x5:=hf 5 _ rfl
   obtain ⟨a5,d5,o5,k5⟩:=zFu Tryz.underlying22 h5
   have h6:DataW.trod enc Tryz.prog w base spare held n 25 [c6,c7]=some x6:=hf 6 _ rfl
   obtain ⟨a6,d6,o6,k6⟩:=rd25 h6
   have h7:DataW.trod enc Tryz.prog w base spare held n 25 [c8,c9]=some x7:=hf 7 _ rfl
   obtain ⟨a7,d7,o7,k7⟩:=rd25 h7
   have h8:DataW.trod enc Tryz.prog w base spare held n 4 [c10]=some x8:=hf 8 _ rfl
   obtain ⟨a8,d8,o8,k8⟩:=zwS Tryz.underlying4 h8
   have h9:DataW.trod enc Tryz.prog w base spare held n 3 [c11]=some x9:=hf 9 _ rfl
   obtain ⟨a9,d9,o9,k9⟩:=zcJ Tryz.underlying3 h9
   have h10:DataW.trod enc Tryz.prog w base spare held n 3 [c12]=some x10:=hf 10 _ rfl
   obtain ⟨a10,d10,o10,k10⟩:=zcJ Tryz.underlying3 h10
   have h11:DataW.trod enc Tryz.prog w base spare held n 3 [c13]=some x11:=hf 11 _ rfl
   obtain ⟨a11,d11,o11,k11⟩:=zcJ Tryz.underlying3 h11
   refine ⟨⟨a0,a1,a2,a3,a4,a5,a6,a7,a8,a9,a10,a11⟩,(d0.append (d1.append (d2.append (d3.append (d4.append (d5.append (d6.append (d7.append (d8.append (d9.append (d10.append d11))))))))))),fun c hc=>?_,k0,k1,k2,k3,k4,k5,k6,k7,k8,k9,k10,k11⟩
   have hc:c ∈ (vI a0).cells ++ ((vI a1).cells ++ ((vI a2).cells ++ ((vT a3).cells ++ ((vT a4).cells ++ ((vU a5).cells ++ ((zai a6).cells ++ ((zai a7).cells ++ ((vF a8).cells ++ ((vI a9).cells ++ ((vI a10).cells ++ ((vI a11).cells))))))))))):=hc
   simp only [List.mem_append] at hc
   rcases hc with hc | hc | hc | hc | hc | hc | hc | hc | hc | hc | hc | hc
   ·exact o0 c hc
   ·exact o1 c hc
   ·exact o2 c hc
   ·exact o3 c hc
   ·exact o4 c hc
   ·exact o5 c hc
   ·exact o6 c hc
   ·exact o7 c hc
   ·exact o8 c hc
   ·exact o9 c hc
   ·exact o10 c hc
   ·exact o11 c hc
def Result.Ok (x:Result):Prop:=OkI x.job ∧ OkI x.kind ∧ OkT x.key ∧ OkT x.val ∧ OkF x.has ∧ OkI x.err
theorem rd60 {H:Type} {enc:TypeId × Value → H} {w:World} {base:Nat} {spare:Nat → Bool} {held:Bool} {fuel:Nat} {cs:List Value} {x:DataW H × List MemPlace} (h:DataW.trod enc Tryz.prog w base spare held fuel 60 cs=some x):∃ a,Rd Tryz.prog w zal Result.Ok cs a:=by
 obtain ⟨xs,n,rfl,rfl,hl,hxl,hf⟩:=DataW.trod_struct Tryz.underlying60 h
 have hc:cs.length=6:=hl.trans (by kernel_rfl)
 have hx:xs.length=6:=hxl
 match cs,hc with
 | [c0,c1,c2,c3,c4,c5],_=>
  match xs,hx with
  | [x0,x1,x2,x3,x4,x5],_=>
   have h0:DataW.trod enc Tryz.prog w base spare held n 3 [c0]=some x0:=hf 0 _ rfl
   obtain ⟨a0,d0,o0,k0⟩:=zcJ Tryz.underlying3 h0
   have h1:DataW.trod enc Tryz.prog w base spare held n 3 [c1]=some x1:=hf 1 _ rfl
   obtain ⟨a1,d1,o1,k1⟩:=zcJ Tryz.underlying3 h1
   have h2:DataW.trod enc Tryz.prog w base spare held n 9 [c2]=some x2:=hf 2 _ rfl
   obtain ⟨a2,d2,o2,k2⟩:=zjz Tryz.underlying9 h2
   have h3:DataW.trod enc Tryz.prog w base spare held n 9 [c3]=some x3:=hf 3 _ rfl
   obtain ⟨a3,d3,o3,k3⟩:=zjz Tryz.underlying9 h3
   have h4:DataW.trod enc Tryz.prog w base spare held n 4 [c4]=some x4:=hf 4 _ rfl
   obtain ⟨a4,d4,o4,k4⟩:=zwS Tryz.underlying4 h4
   have h5:DataW.trod enc Tryz.prog w base spare held n 49 [c5]=some x5:=hf 5 _ rfl
   obtain ⟨a5,d5,o5,k5⟩:=zcJ Tryz.underlying49 h5
   refine ⟨⟨a0,a1,a2,a3,a4,a5⟩,(d0.append (d1.append (d2.append (d3.append (d4.append d5))))),fun c hc=>?_,k0,k1,k2,k3,k4,k5⟩
   have hc:c ∈ (vI a0).cells ++ ((vI a1).cells ++ ((vT a2).cells ++ ((vT a3).cells ++ ((vF a4).cells ++ ((vI a5).cells))))):=hc
   simp only [List.mem_append] at hc
   rcases hc with hc | hc | hc | hc | hc | hc
   ·exact o0 c hc
   ·exact o1 c hc
   ·exact o2 c hc
   ·exact o3 c hc
   ·exact o4 c hc
   ·exact o5 c hc
theorem rd26 {H:Type} {enc:TypeId × Value → H} {w:World} {base:Nat} {spare:Nat → Bool} {held:Bool} {fuel:Nat} {cs:List Value} {x:DataW H × List MemPlace} (h:DataW.trod enc Tryz.prog w base spare held fuel 26 cs=some x):∃ l,Rd Tryz.prog w (eL 81 zat) (OkL Entry.Ok) cs l:=
 zmv (size:=3) Tryz.underlying26 (by kernel_rfl) (by omega) (fun a=>rfl) h (fun n cs' y _ hy=>rd81 hy)
theorem rd27 {H:Type} {enc:TypeId × Value → H} {w:World} {base:Nat} {spare:Nat → Bool} {held:Bool} {fuel:Nat} {cs:List Value} {x:DataW H × List MemPlace} (h:DataW.trod enc Tryz.prog w base spare held fuel 27 cs=some x):∃ l,Rd Tryz.prog w (eL 84 zae) (OkL Finger.Ok) cs l:=
 zmv (size:=3) Tryz.underlying27 (by kernel_rfl) (by omega) (fun a=>rfl) h (fun n cs' y _ hy=>rd84 hy)
theorem rd28 {H:Type} {enc:TypeId × Value → H} {w:World} {base:Nat} {spare:Nat → Bool} {held:Bool} {fuel:Nat} {cs:List Value} {x:DataW H × List MemPlace} (h:DataW.trod enc Tryz.prog w base spare held fuel 28 cs=some x):∃ l,Rd Tryz.prog w (eL 78 zan) (OkL Pair.Ok) cs l:=
 zmv (size:=2) Tryz.underlying28 (by kernel_rfl) (by omega) (fun a=>rfl) h (fun n cs' y _ hy=>rd78 hy)
theorem rd29 {H:Type} {enc:TypeId × Value → H} {w:World} {base:Nat} {spare:Nat → Bool} {held:Bool} {fuel:Nat} {cs:List Value} {x:DataW H × List MemPlace} (h:DataW.trod enc Tryz.prog w base spare held fuel 29 cs=some x):∃ l,Rd Tryz.prog w (eL 88 zaX) (OkL Pend.Ok) cs l:=
 zmv (size:=7) Tryz.underlying29 (by kernel_rfl) (by omega) (fun a=>rfl) h (fun n cs' y _ hy=>rd88 hy)
theorem rd30 {H:Type} {enc:TypeId × Value → H} {w:World} {base:Nat} {spare:Nat → Bool} {held:Bool} {fuel:Nat} {cs:List Value} {x:DataW H × List MemPlace} (h:DataW.trod enc Tryz.prog w base spare held fuel 30 cs=some x):∃ l,Rd Tryz.prog w (eL 67 eJob) (OkL Job.Ok) cs l:=
 zmv (size:=14) Tryz.underlying30 (by kernel_rfl) (by omega) (fun a=>rfl) h (fun n cs' y _ hy=>rd67 hy)
theorem rd31 {H:Type} {enc:TypeId × Value → H} {w:World} {base:Nat} {spare:Nat → Bool} {held:Bool} {fuel:Nat} {cs:List Value} {x:DataW H × List MemPlace} (h:DataW.trod enc Tryz.prog w base spare held fuel 31 cs=some x):∃ l,Rd Tryz.prog w (eL 60 zal) (OkL Result.Ok) cs l:=
 zmv (size:=6) Tryz.underlying31 (by kernel_rfl) (by omega) (fun a=>rfl) h (fun n cs' y _ hy=>rd60 hy)
def Node.Ok (x:Node):Prop:=Peer.Ok x.me ∧ OkI x.clock ∧ OkF x.joined ∧ (OkL Entry.Ok) x.pred ∧ (OkL Entry.Ok) x.list ∧ (OkL Finger.Ok) x.fingers ∧ (OkL Pair.Ok) x.store ∧ (OkL Pend.Ok) x.pends ∧ (OkL Job.Ok) x.jobs ∧ (OkL Result.Ok) x.results ∧ OkW x.rid ∧ OkI x.jobID ∧ OkI x.nextBit
theorem rd34 {H:Type} {enc:TypeId × Value → H} {w:World} {base:Nat} {spare:Nat → Bool} {held:Bool} {fuel:Nat} {cs:List Value} {x:DataW H × List MemPlace} (h:DataW.trod enc Tryz.prog w base spare held fuel 34 cs=some x):∃ a,Rd Tryz.prog w zaJ Node.Ok cs a:=by
 obtain ⟨xs,n,rfl,rfl,hl,hxl,hf⟩:=DataW.trod_struct Tryz.underlying34 h
 have hc:cs.length=14:=hl.trans (by kernel_rfl)
 have hx:xs.length=13:=hxl
 match cs,hc with
 | [c0,c1,c2,c3,c4,c5,c6,c7,c8,c9,c10,c11,c12,c13],_=>
  match xs,hx with
  | [x0,x1,x2,x3,x4,x5,x6,x7,x8,x9,x10,x11,x12],_=>
   have h0:DataW.trod enc Tryz.prog w base spare held n 25 [c0,c1]=some x0:=hf 0 _ rfl
   obtain ⟨a0,d0,o0,k0⟩:=rd25 h0
   have h1:DataW.trod enc Tryz.prog w base spare held n 3 [c2]=some x1:=hf 1 _ rfl
   obtain ⟨a1,d1,o1,k1⟩:=zcJ Tryz.underlying3 h1
   have h2:DataW.trod enc Tryz.prog w base spare held n 4 [c3]=some x2:=hf 2 _ rfl
   obtain ⟨a2,d2,o2,k2⟩:=zwS Tryz.underlying4 h2
   have h3:DataW.trod enc Tryz.prog w base spare held n 26 [c4]=some x3:=hf 3 _ rfl
   obtain ⟨a3,d3,o3,k3⟩:=rd26 h3
   have h4:DataW.trod enc Tryz.prog w base spare held n 26 [c5]=some x4:=hf 4 _ rfl
   obtain ⟨a4,d4,o4,k4⟩:=rd26 h4
   have h5:DataW.trod enc Tryz.prog w base spare held n 27 [c6]=some x5:=hf 5 _ rfl
   obtain ⟨a5,d5,o5,k5⟩:=rd27 h5
   have h6:DataW.trod enc Tryz.prog w base spare held n 28 [c7]=some x6:=hf 6 _ rfl
   obtain ⟨a6,d6,o6,k6⟩:=rd28 h6
   have h7:DataW.trod enc Tryz.prog w base spare held n 29 [c8]=some x7:=hf 7 _ rfl
   obtain ⟨a7,d7,o7,k7⟩:=rd29 h7
   have h8:DataW.trod enc Tryz.prog w base spare held n 30 [c9]=some x8:=hf 8 _ rfl
   obtain ⟨a8,d8,o8,k8⟩:=rd30 h8
   have h9:DataW.trod enc Tryz.prog w base spare held n 31 [c10]=some x9:=hf 9 _ rfl
   obtain ⟨a9,d9,o9,k9⟩:=rd31 h9
   have h10:DataW.trod enc Tryz.prog w base spare held n 32 [c11]=some x10:=hf 10 _ rfl
   obtain ⟨a10,d10,o10,k10⟩:=zFt Tryz.underlying32 h10
   have h11:DataW.trod enc Tryz.prog w base spare held n 3 [c12]=some x11:=hf 11 _ rfl
   obtain ⟨a11,d11,o11,k11⟩:=zcJ Tryz.underlying3 h11
   have h12:DataW.trod enc Tryz.prog w base spare held n 3 [c13]=some x12:=hf 12 _ rfl
   obtain ⟨a12,d12,o12,k12⟩:=zcJ Tryz.underlying3 h12
   refine ⟨⟨a0,a1,a2,a3,a4,a5,a6,a7,a8,a9,a10,a11,a12⟩,(d0.append (d1.append (d2.append (d3.append (d4.append (d5.append (d6.append (d7.append (d8.append (d9.append (d10.append (d11.append d12)))))))))))),fun c hc=>?_,k0,k1,k2,k3,k4,k5,k6,k7,k8,k9,k10,k11,k12⟩
   have hc:c ∈ (zai a0).cells ++ ((vI a1).cells ++ ((vF a2).cells ++ (((eL 81 zat) a3).cells ++ (((eL 81 zat) a4).cells ++ (((eL 84 zae) a5).cells ++ (((eL 78 zan) a6).cells ++ (((eL 88 zaX) a7).cells ++ (((eL 67 eJob) a8).cells ++ (((eL 60 zal) a9).cells ++ ((vW a10).cells ++ ((vI a11).cells ++ ((vI a12).cells)))))))))))):=hc
   simp only [List.mem_append] at hc
   rcases hc with hc | hc | hc | hc | hc | hc | hc | hc | hc | hc | hc | hc | hc
   ·exact o0 c hc
   ·exact o1 c hc
   ·exact o2 c hc
   ·exact o3 c hc
   ·exact o4 c hc
   ·exact o5 c hc
   ·exact o6 c hc
   ·exact o7 c hc
   ·exact o8 c hc
   ·exact o9 c hc
   ·exact o10 c hc
   ·exact o11 c hc
   ·exact o12 c hc
theorem arg34 {H:Type} {enc:TypeId × Value → H} {w:World} {base:Nat} {spare:Nat → Bool} {held:Bool} {r:Reach} {b0:Nat} {v:Value} {d:DataW H} {ps:List MemPlace} (hval:Value.okWide Tryz.prog w r b0 34 v) (h:DataW.Trod enc Tryz.prog w base spare held 34 v d ps):∃ a,DL Tryz.prog w (fun _=>False) [zaJ a] [v] ∧ Node.Ok a:=
 zu1 (fun _=>⟨_,rfl⟩) Tryz.underlying34 hval (let ⟨_,hf⟩:=h;rd34 hf)
end Go.Ab.Tryz
