/-
  NARROWER THAN 'FOR EVERY INPUT', by the rows' own cells (each row's printed sentence says how): ServeAnswers: laid · ServeKeeps: laid · ServeGets: laid · WorkAlone: laid · WorkBegins: laid · WorkEnds: laid · ServeRight: laid · WorkGoes: laid.
  DERIVED. THE GIVEN ROWS OF THIS SEAT. 8 by the template 'for every input the law returns true; each argument reads behind the call as it read before'; 0 by the template 'total and deterministic' (their statements: YtjmmobicnfojeaaGreatDoorTotals.lean).
  GIVEN WITH THE SEED: the statements are not yours to turn. If you find one false, say at which input.
  Laid BY PROGRAM, IN A SANDBOX (cutbox-rows.mjs): the forced cells as the released guide's own fill.sh prints them over the translation 9af4d4b875eab956… (all of the seat's roots in one cut). By AI agents, Wed Nov 11 2026. No macro, syntax, notation, axiom, sorry.
-/
import Derived.Test.YtjmmobicnfojeaaGreatDoorChecked
import GoSem.PinnedTables
import GoSem.Claim
import GoSem.ClaimJoined
import GoSem.ClaimMapViews
import Derived.JoinedTies
import Derived.KernelRfl
namespace Go.Proofs.YtjmmobicnfojeaaGreatDoor
/- THE CELL 'sum', in the pinned program and in every row, IS THE sha256 OF THE DUMP (.gsa) THAT YtjmmobicnfojeaaGreatDoorProg.lean LOADS. Nothing in Lean hashes anything: it is a label: what it is worth is what the hold of that sum in a sandbox is worth. -/
noncomputable def Tryz.pinned : Pinned := { name := "ytjmmobicnfojeaagreatdoor", sum := "9af4d4b875eab956b7ef31c86e52d2a1916e83f2e2d653c220cffe7f4c15d71a", checked := Tryz.checked }
namespace Rows
def none {H : Type} : Left H := { results := [], args := [] }

/- WHAT THE LISTED PACKAGE-LEVEL VARIABLES READ AS WHEN THE CALL BEGINS. Each datum BY PROGRAM (the guide's laid-datum.mjs) off the statement by which the dump's own 'gosem.cut.vars' lays the variable. In a bare row this is a premise. The card (YtjmmobicnfojeaaGreatDoorCards.lean) ties it to the program's text. -/
def laid_unicode_utf8_acceptRanges {H : Type} : DataW H := .agg [.agg [.lit (.int .u8 128), .lit (.int .u8 191)], .agg [.lit (.int .u8 160), .lit (.int .u8 191)], .agg [.lit (.int .u8 128), .lit (.int .u8 159)], .agg [.lit (.int .u8 144), .lit (.int .u8 191)], .agg [.lit (.int .u8 128), .lit (.int .u8 143)], .agg [.lit (.int .u8 0), .lit (.int .u8 0)], .agg [.lit (.int .u8 0), .lit (.int .u8 0)], .agg [.lit (.int .u8 0), .lit (.int .u8 0)], .agg [.lit (.int .u8 0), .lit (.int .u8 0)], .agg [.lit (.int .u8 0), .lit (.int .u8 0)], .agg [.lit (.int .u8 0), .lit (.int .u8 0)], .agg [.lit (.int .u8 0), .lit (.int .u8 0)], .agg [.lit (.int .u8 0), .lit (.int .u8 0)], .agg [.lit (.int .u8 0), .lit (.int .u8 0)], .agg [.lit (.int .u8 0), .lit (.int .u8 0)], .agg [.lit (.int .u8 0), .lit (.int .u8 0)]]
/-- One of Go's own tables, pinned by name: the form's constant. -/
def laid_unicode_utf8_first : DataW Unit := Go.Pinned.utf8First

/-- 'annuletlaw33.ServeAnswers': WHATEVER THE INPUT: true; the input reads as it did. -/
def serveAnswersSpec : ChangeSpec := { name := "serveAnswers", fn := fun _ => fun
  | [d1, d2, d3] => { results := [.lit (.bool true)], args := [d1, d2, d3] }
  | _ => none }
def serveAnswersRow : OpenClaim := { program := "ytjmmobicnfojeaagreatdoor", sum := "9af4d4b875eab956b7ef31c86e52d2a1916e83f2e2d653c220cffe7f4c15d71a", func := "annulet/annuletlaw33.ServeAnswers", spec := "serveAnswers", inPlace := ["slices.overlaps[annulet/api.Entry]", "slices.overlaps[annulet/api.Pair]"], unfollowed := true, recurses := true, named := ["unicode/utf8.first", "unicode/utf8.acceptRanges"], apart := false, laid := [("unicode/utf8.acceptRanges", laid_unicode_utf8_acceptRanges), ("unicode/utf8.first", laid_unicode_utf8_first)] }
def ServeAnswersSaid : Prop := serveAnswersRow.holds Tryz.pinned (OpenSpec.ofChange serveAnswersSpec)

/-- ITS FALSE NEIGHBOUR: 'it returns false'. Refute it at one input. -/
def serveAnswersWrong : ChangeSpec := { name := "serveAnswers", fn := fun _ => fun
  | [d1, d2, d3] => { results := [.lit (.bool false)], args := [d1, d2, d3] }
  | _ => none }
def ServeAnswersWrongFalsely : Prop := serveAnswersRow.holds Tryz.pinned (OpenSpec.ofChange serveAnswersWrong)

/-- 'annuletlaw33.ServeKeeps': WHATEVER THE INPUT: true; the input reads as it did. -/
def serveKeepsSpec : ChangeSpec := { name := "serveKeeps", fn := fun _ => fun
  | [d1, d2, d3, d4, d5, d6] => { results := [.lit (.bool true)], args := [d1, d2, d3, d4, d5, d6] }
  | _ => none }
def serveKeepsRow : OpenClaim := { program := "ytjmmobicnfojeaagreatdoor", sum := "9af4d4b875eab956b7ef31c86e52d2a1916e83f2e2d653c220cffe7f4c15d71a", func := "annulet/annuletlaw33.ServeKeeps", spec := "serveKeeps", inPlace := ["slices.overlaps[annulet/api.Entry]", "slices.overlaps[annulet/api.Pair]"], unfollowed := true, recurses := true, named := ["unicode/utf8.first", "unicode/utf8.acceptRanges"], apart := false, laid := [("unicode/utf8.acceptRanges", laid_unicode_utf8_acceptRanges), ("unicode/utf8.first", laid_unicode_utf8_first)] }
def ServeKeepsSaid : Prop := serveKeepsRow.holds Tryz.pinned (OpenSpec.ofChange serveKeepsSpec)

/-- ITS FALSE NEIGHBOUR: 'it returns false'. Refute it at one input. -/
def serveKeepsWrong : ChangeSpec := { name := "serveKeeps", fn := fun _ => fun
  | [d1, d2, d3, d4, d5, d6] => { results := [.lit (.bool false)], args := [d1, d2, d3, d4, d5, d6] }
  | _ => none }
def ServeKeepsWrongFalsely : Prop := serveKeepsRow.holds Tryz.pinned (OpenSpec.ofChange serveKeepsWrong)

/-- 'annuletlaw33.ServeGets': WHATEVER THE INPUT: true; the input reads as it did. -/
def serveGetsSpec : ChangeSpec := { name := "serveGets", fn := fun _ => fun
  | [d1, d2, d3, d4] => { results := [.lit (.bool true)], args := [d1, d2, d3, d4] }
  | _ => none }
def serveGetsRow : OpenClaim := { program := "ytjmmobicnfojeaagreatdoor", sum := "9af4d4b875eab956b7ef31c86e52d2a1916e83f2e2d653c220cffe7f4c15d71a", func := "annulet/annuletlaw33.ServeGets", spec := "serveGets", inPlace := ["slices.overlaps[annulet/api.Entry]", "slices.overlaps[annulet/api.Pair]"], unfollowed := true, recurses := true, named := ["unicode/utf8.first", "unicode/utf8.acceptRanges"], apart := false, laid := [("unicode/utf8.acceptRanges", laid_unicode_utf8_acceptRanges), ("unicode/utf8.first", laid_unicode_utf8_first)] }
def ServeGetsSaid : Prop := serveGetsRow.holds Tryz.pinned (OpenSpec.ofChange serveGetsSpec)

/-- ITS FALSE NEIGHBOUR: 'it returns false'. Refute it at one input. -/
def serveGetsWrong : ChangeSpec := { name := "serveGets", fn := fun _ => fun
  | [d1, d2, d3, d4] => { results := [.lit (.bool false)], args := [d1, d2, d3, d4] }
  | _ => none }
def ServeGetsWrongFalsely : Prop := serveGetsRow.holds Tryz.pinned (OpenSpec.ofChange serveGetsWrong)

/-- 'annuletlaw34.WorkAlone': WHATEVER THE INPUT: true; the input reads as it did. -/
def workAloneSpec : ChangeSpec := { name := "workAlone", fn := fun _ => fun
  | [d1, d2, d3, d4] => { results := [.lit (.bool true)], args := [d1, d2, d3, d4] }
  | _ => none }
def workAloneRow : OpenClaim := { program := "ytjmmobicnfojeaagreatdoor", sum := "9af4d4b875eab956b7ef31c86e52d2a1916e83f2e2d653c220cffe7f4c15d71a", func := "annulet/annuletlaw34.WorkAlone", spec := "workAlone", inPlace := ["slices.overlaps[annulet/api.Finger]", "slices.overlaps[annulet/api.Pair]"], unfollowed := true, recurses := true, named := ["unicode/utf8.first", "unicode/utf8.acceptRanges"], apart := false, laid := [("unicode/utf8.acceptRanges", laid_unicode_utf8_acceptRanges), ("unicode/utf8.first", laid_unicode_utf8_first)] }
def WorkAloneSaid : Prop := workAloneRow.holds Tryz.pinned (OpenSpec.ofChange workAloneSpec)

/-- ITS FALSE NEIGHBOUR: 'it returns false'. Refute it at one input. -/
def workAloneWrong : ChangeSpec := { name := "workAlone", fn := fun _ => fun
  | [d1, d2, d3, d4] => { results := [.lit (.bool false)], args := [d1, d2, d3, d4] }
  | _ => none }
def WorkAloneWrongFalsely : Prop := workAloneRow.holds Tryz.pinned (OpenSpec.ofChange workAloneWrong)

/-- 'annuletlaw34.WorkBegins': WHATEVER THE INPUT: true; the input reads as it did. -/
def workBeginsSpec : ChangeSpec := { name := "workBegins", fn := fun _ => fun
  | [d1, d2, d3, d4, d5, d6] => { results := [.lit (.bool true)], args := [d1, d2, d3, d4, d5, d6] }
  | _ => none }
def workBeginsRow : OpenClaim := { program := "ytjmmobicnfojeaagreatdoor", sum := "9af4d4b875eab956b7ef31c86e52d2a1916e83f2e2d653c220cffe7f4c15d71a", func := "annulet/annuletlaw34.WorkBegins", spec := "workBegins", inPlace := ["slices.overlaps[annulet/api.Finger]", "slices.overlaps[annulet/api.Pair]"], unfollowed := true, recurses := true, named := ["unicode/utf8.first", "unicode/utf8.acceptRanges"], apart := false, laid := [("unicode/utf8.acceptRanges", laid_unicode_utf8_acceptRanges), ("unicode/utf8.first", laid_unicode_utf8_first)] }
def WorkBeginsSaid : Prop := workBeginsRow.holds Tryz.pinned (OpenSpec.ofChange workBeginsSpec)

/-- ITS FALSE NEIGHBOUR: 'it returns false'. Refute it at one input. -/
def workBeginsWrong : ChangeSpec := { name := "workBegins", fn := fun _ => fun
  | [d1, d2, d3, d4, d5, d6] => { results := [.lit (.bool false)], args := [d1, d2, d3, d4, d5, d6] }
  | _ => none }
def WorkBeginsWrongFalsely : Prop := workBeginsRow.holds Tryz.pinned (OpenSpec.ofChange workBeginsWrong)

/-- 'annuletlaw34.WorkEnds': WHATEVER THE INPUT: true; the input reads as it did. -/
def workEndsSpec : ChangeSpec := { name := "workEnds", fn := fun _ => fun
  | [d1, d2, d3] => { results := [.lit (.bool true)], args := [d1, d2, d3] }
  | _ => none }
def workEndsRow : OpenClaim := { program := "ytjmmobicnfojeaagreatdoor", sum := "9af4d4b875eab956b7ef31c86e52d2a1916e83f2e2d653c220cffe7f4c15d71a", func := "annulet/annuletlaw34.WorkEnds", spec := "workEnds", inPlace := ["slices.overlaps[annulet/api.Finger]", "slices.overlaps[annulet/api.Pair]"], unfollowed := true, recurses := true, named := ["unicode/utf8.first", "unicode/utf8.acceptRanges"], apart := false, laid := [("unicode/utf8.acceptRanges", laid_unicode_utf8_acceptRanges), ("unicode/utf8.first", laid_unicode_utf8_first)] }
def WorkEndsSaid : Prop := workEndsRow.holds Tryz.pinned (OpenSpec.ofChange workEndsSpec)

/-- ITS FALSE NEIGHBOUR: 'it returns false'. Refute it at one input. -/
def workEndsWrong : ChangeSpec := { name := "workEnds", fn := fun _ => fun
  | [d1, d2, d3] => { results := [.lit (.bool false)], args := [d1, d2, d3] }
  | _ => none }
def WorkEndsWrongFalsely : Prop := workEndsRow.holds Tryz.pinned (OpenSpec.ofChange workEndsWrong)

/-- 'annuletlaw33.ServeRight': WHATEVER THE INPUT: true; the input reads as it did. -/
def serveRightSpec : ChangeSpec := { name := "serveRight", fn := fun _ => fun
  | [d1, d2, d3] => { results := [.lit (.bool true)], args := [d1, d2, d3] }
  | _ => none }
def serveRightRow : OpenClaim := { program := "ytjmmobicnfojeaagreatdoor", sum := "9af4d4b875eab956b7ef31c86e52d2a1916e83f2e2d653c220cffe7f4c15d71a", func := "annulet/annuletlaw33.ServeRight", spec := "serveRight", inPlace := ["slices.overlaps[annulet/api.Entry]", "slices.overlaps[annulet/api.Pair]"], unfollowed := true, recurses := true, named := ["unicode/utf8.first", "unicode/utf8.acceptRanges"], apart := false, laid := [("unicode/utf8.acceptRanges", laid_unicode_utf8_acceptRanges), ("unicode/utf8.first", laid_unicode_utf8_first)] }
def ServeRightSaid : Prop := serveRightRow.holds Tryz.pinned (OpenSpec.ofChange serveRightSpec)

/-- ITS FALSE NEIGHBOUR: 'it returns false'. Refute it at one input. -/
def serveRightWrong : ChangeSpec := { name := "serveRight", fn := fun _ => fun
  | [d1, d2, d3] => { results := [.lit (.bool false)], args := [d1, d2, d3] }
  | _ => none }
def ServeRightWrongFalsely : Prop := serveRightRow.holds Tryz.pinned (OpenSpec.ofChange serveRightWrong)

/-- 'annuletlaw34.WorkGoes': WHATEVER THE INPUT: true; the input reads as it did. -/
def workGoesSpec : ChangeSpec := { name := "workGoes", fn := fun _ => fun
  | [d1, d2, d3, d4] => { results := [.lit (.bool true)], args := [d1, d2, d3, d4] }
  | _ => none }
def workGoesRow : OpenClaim := { program := "ytjmmobicnfojeaagreatdoor", sum := "9af4d4b875eab956b7ef31c86e52d2a1916e83f2e2d653c220cffe7f4c15d71a", func := "annulet/annuletlaw34.WorkGoes", spec := "workGoes", inPlace := ["slices.overlaps[annulet/api.Finger]", "slices.overlaps[annulet/api.Pair]", "slices.overlaps[annulet/api.Entry]"], unfollowed := true, recurses := true, named := ["unicode/utf8.first", "unicode/utf8.acceptRanges"], apart := false, laid := [("unicode/utf8.acceptRanges", laid_unicode_utf8_acceptRanges), ("unicode/utf8.first", laid_unicode_utf8_first)] }
def WorkGoesSaid : Prop := workGoesRow.holds Tryz.pinned (OpenSpec.ofChange workGoesSpec)

/-- ITS FALSE NEIGHBOUR: 'it returns false'. Refute it at one input. -/
def workGoesWrong : ChangeSpec := { name := "workGoes", fn := fun _ => fun
  | [d1, d2, d3, d4] => { results := [.lit (.bool false)], args := [d1, d2, d3, d4] }
  | _ => none }
def WorkGoesWrongFalsely : Prop := workGoesRow.holds Tryz.pinned (OpenSpec.ofChange workGoesWrong)

/- THE SECOND FORM. 'bulk': how many values and letters a reading holds, each counted each time it is reached (what is shared counts as often as it is met; a slice's spare places count too). A statement '..UptoSaid' is the law's where the arguments, and the package variables that the reading takes, are together of bulk at most 1048576: NARROWER than '..Said'. Prove '..Said' where nothing that the law and all that it calls make is longer than what came in: it says more and counts as full. Else prove '..UptoSaid'. A law counts once. -/
mutual
def uptoBulk {H : Type} : DataW H → Nat
  | .lit (.string bytes) => bytes.length + 1
  | .lit _ => 1
  | .nil => 1
  | .ptr d => uptoBulk d + 1
  | .slice elems spare => uptoBulkAll elems + uptoBulkAll spare + 1
  | .agg parts => uptoBulkAll parts + 1
  | .iface _ d => uptoBulk d + 1
  | .map entries => uptoBulkEntries entries + 1
  | .held _ => 1
def uptoBulkAll {H : Type} : List (DataW H) → Nat
  | [] => 0
  | d :: r => uptoBulk d + uptoBulkAll r
def uptoBulkEntries {H : Type} : List (Lit × DataW H) → Nat
  | [] => 0
  | x :: r => uptoBulkEntry x + uptoBulkEntries r
def uptoBulkEntry {H : Type} : Lit × DataW H → Nat
  | (.string bytes, d) => bytes.length + uptoBulk d + 1
  | (_, d) => uptoBulk d + 1
 end
def uptoSmall : (H : Type) → List (DataW H) → Bool := fun _ ds => decide (uptoBulkAll ds ≤ 1048576)
def OpenSpec.upto (s : _root_.Go.ChangeSpec) : _root_.Go.OpenSpec := { _root_.Go.OpenSpec.ofChange s with cond := some uptoSmall }

/-- 'annuletlaw33.ServeAnswers', WHERE WHAT IT READS IS OF BULK AT MOST 1048576: true; the input reads as it did. -/
def serveAnswersUptoRow : OpenClaim := { program := "ytjmmobicnfojeaagreatdoor", sum := "9af4d4b875eab956b7ef31c86e52d2a1916e83f2e2d653c220cffe7f4c15d71a", func := "annulet/annuletlaw33.ServeAnswers", spec := "serveAnswers", inPlace := ["slices.overlaps[annulet/api.Entry]", "slices.overlaps[annulet/api.Pair]"], unfollowed := true, recurses := true, named := ["unicode/utf8.first", "unicode/utf8.acceptRanges"], apart := false, laid := [("unicode/utf8.acceptRanges", laid_unicode_utf8_acceptRanges), ("unicode/utf8.first", laid_unicode_utf8_first)], narrowed := true }
def ServeAnswersUptoSaid : Prop := serveAnswersUptoRow.holds Tryz.pinned (OpenSpec.upto serveAnswersSpec)

/-- 'annuletlaw33.ServeKeeps', WHERE WHAT IT READS IS OF BULK AT MOST 1048576: true; the input reads as it did. -/
def serveKeepsUptoRow : OpenClaim := { program := "ytjmmobicnfojeaagreatdoor", sum := "9af4d4b875eab956b7ef31c86e52d2a1916e83f2e2d653c220cffe7f4c15d71a", func := "annulet/annuletlaw33.ServeKeeps", spec := "serveKeeps", inPlace := ["slices.overlaps[annulet/api.Entry]", "slices.overlaps[annulet/api.Pair]"], unfollowed := true, recurses := true, named := ["unicode/utf8.first", "unicode/utf8.acceptRanges"], apart := false, laid := [("unicode/utf8.acceptRanges", laid_unicode_utf8_acceptRanges), ("unicode/utf8.first", laid_unicode_utf8_first)], narrowed := true }
def ServeKeepsUptoSaid : Prop := serveKeepsUptoRow.holds Tryz.pinned (OpenSpec.upto serveKeepsSpec)

/-- 'annuletlaw33.ServeGets', WHERE WHAT IT READS IS OF BULK AT MOST 1048576: true; the input reads as it did. -/
def serveGetsUptoRow : OpenClaim := { program := "ytjmmobicnfojeaagreatdoor", sum := "9af4d4b875eab956b7ef31c86e52d2a1916e83f2e2d653c220cffe7f4c15d71a", func := "annulet/annuletlaw33.ServeGets", spec := "serveGets", inPlace := ["slices.overlaps[annulet/api.Entry]", "slices.overlaps[annulet/api.Pair]"], unfollowed := true, recurses := true, named := ["unicode/utf8.first", "unicode/utf8.acceptRanges"], apart := false, laid := [("unicode/utf8.acceptRanges", laid_unicode_utf8_acceptRanges), ("unicode/utf8.first", laid_unicode_utf8_first)], narrowed := true }
def ServeGetsUptoSaid : Prop := serveGetsUptoRow.holds Tryz.pinned (OpenSpec.upto serveGetsSpec)

/-- 'annuletlaw34.WorkAlone', WHERE WHAT IT READS IS OF BULK AT MOST 1048576: true; the input reads as it did. -/
def workAloneUptoRow : OpenClaim := { program := "ytjmmobicnfojeaagreatdoor", sum := "9af4d4b875eab956b7ef31c86e52d2a1916e83f2e2d653c220cffe7f4c15d71a", func := "annulet/annuletlaw34.WorkAlone", spec := "workAlone", inPlace := ["slices.overlaps[annulet/api.Finger]", "slices.overlaps[annulet/api.Pair]"], unfollowed := true, recurses := true, named := ["unicode/utf8.first", "unicode/utf8.acceptRanges"], apart := false, laid := [("unicode/utf8.acceptRanges", laid_unicode_utf8_acceptRanges), ("unicode/utf8.first", laid_unicode_utf8_first)], narrowed := true }
def WorkAloneUptoSaid : Prop := workAloneUptoRow.holds Tryz.pinned (OpenSpec.upto workAloneSpec)

/-- 'annuletlaw34.WorkBegins', WHERE WHAT IT READS IS OF BULK AT MOST 1048576: true; the input reads as it did. -/
def workBeginsUptoRow : OpenClaim := { program := "ytjmmobicnfojeaagreatdoor", sum := "9af4d4b875eab956b7ef31c86e52d2a1916e83f2e2d653c220cffe7f4c15d71a", func := "annulet/annuletlaw34.WorkBegins", spec := "workBegins", inPlace := ["slices.overlaps[annulet/api.Finger]", "slices.overlaps[annulet/api.Pair]"], unfollowed := true, recurses := true, named := ["unicode/utf8.first", "unicode/utf8.acceptRanges"], apart := false, laid := [("unicode/utf8.acceptRanges", laid_unicode_utf8_acceptRanges), ("unicode/utf8.first", laid_unicode_utf8_first)], narrowed := true }
def WorkBeginsUptoSaid : Prop := workBeginsUptoRow.holds Tryz.pinned (OpenSpec.upto workBeginsSpec)

/-- 'annuletlaw34.WorkEnds', WHERE WHAT IT READS IS OF BULK AT MOST 1048576: true; the input reads as it did. -/
def workEndsUptoRow : OpenClaim := { program := "ytjmmobicnfojeaagreatdoor", sum := "9af4d4b875eab956b7ef31c86e52d2a1916e83f2e2d653c220cffe7f4c15d71a", func := "annulet/annuletlaw34.WorkEnds", spec := "workEnds", inPlace := ["slices.overlaps[annulet/api.Finger]", "slices.overlaps[annulet/api.Pair]"], unfollowed := true, recurses := true, named := ["unicode/utf8.first", "unicode/utf8.acceptRanges"], apart := false, laid := [("unicode/utf8.acceptRanges", laid_unicode_utf8_acceptRanges), ("unicode/utf8.first", laid_unicode_utf8_first)], narrowed := true }
def WorkEndsUptoSaid : Prop := workEndsUptoRow.holds Tryz.pinned (OpenSpec.upto workEndsSpec)

/-- 'annuletlaw33.ServeRight', WHERE WHAT IT READS IS OF BULK AT MOST 1048576: true; the input reads as it did. -/
def serveRightUptoRow : OpenClaim := { program := "ytjmmobicnfojeaagreatdoor", sum := "9af4d4b875eab956b7ef31c86e52d2a1916e83f2e2d653c220cffe7f4c15d71a", func := "annulet/annuletlaw33.ServeRight", spec := "serveRight", inPlace := ["slices.overlaps[annulet/api.Entry]", "slices.overlaps[annulet/api.Pair]"], unfollowed := true, recurses := true, named := ["unicode/utf8.first", "unicode/utf8.acceptRanges"], apart := false, laid := [("unicode/utf8.acceptRanges", laid_unicode_utf8_acceptRanges), ("unicode/utf8.first", laid_unicode_utf8_first)], narrowed := true }
def ServeRightUptoSaid : Prop := serveRightUptoRow.holds Tryz.pinned (OpenSpec.upto serveRightSpec)

/-- 'annuletlaw34.WorkGoes', WHERE WHAT IT READS IS OF BULK AT MOST 1048576: true; the input reads as it did. -/
def workGoesUptoRow : OpenClaim := { program := "ytjmmobicnfojeaagreatdoor", sum := "9af4d4b875eab956b7ef31c86e52d2a1916e83f2e2d653c220cffe7f4c15d71a", func := "annulet/annuletlaw34.WorkGoes", spec := "workGoes", inPlace := ["slices.overlaps[annulet/api.Finger]", "slices.overlaps[annulet/api.Pair]", "slices.overlaps[annulet/api.Entry]"], unfollowed := true, recurses := true, named := ["unicode/utf8.first", "unicode/utf8.acceptRanges"], apart := false, laid := [("unicode/utf8.acceptRanges", laid_unicode_utf8_acceptRanges), ("unicode/utf8.first", laid_unicode_utf8_first)], narrowed := true }
def WorkGoesUptoSaid : Prop := workGoesUptoRow.holds Tryz.pinned (OpenSpec.upto workGoesSpec)

end Rows
end Go.Proofs.YtjmmobicnfojeaaGreatDoor
