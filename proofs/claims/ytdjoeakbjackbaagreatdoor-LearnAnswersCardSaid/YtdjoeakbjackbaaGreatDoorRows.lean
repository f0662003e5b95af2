/-
  NARROWER THAN 'FOR EVERY INPUT', by the rows' own cells (each row's printed sentence says how): LearnAnswers: laid · LearnMisses: laid · LearnSelf: laid · TendTicks: laid · TendBeats: laid · TendAlone: laid · ChordHears: laid · ChordOnce: laid · ChordTwo: laid.
  DERIVED. THE GIVEN ROWS OF THIS SEAT. 9 by the template 'for every input the law returns true; each argument reads behind the call as it read before'; 0 by the template 'total and deterministic' (their statements: YtdjoeakbjackbaaGreatDoorTotals.lean).
  GIVEN WITH THE SEED: the statements are not yours to turn. If you find one false, say at which input.
  Laid BY PROGRAM, IN A SANDBOX (cutbox-rows.mjs): the forced cells as the released guide's own fill.sh prints them over the translation 082424ed205d0cb7… (all of the seat's roots in one cut). By AI agents, Wed Nov 11 2026. No macro, syntax, notation, axiom, sorry.
-/
import Derived.Test.YtdjoeakbjackbaaGreatDoorChecked
import GoSem.PinnedTables
import GoSem.Claim
import GoSem.ClaimJoined
import GoSem.ClaimMapViews
import Derived.JoinedTies
import Derived.KernelRfl
namespace Go.Proofs.YtdjoeakbjackbaaGreatDoor
/- THE CELL 'sum', in the pinned program and in every row, IS THE sha256 OF THE DUMP (.gsa) THAT YtdjoeakbjackbaaGreatDoorProg.lean LOADS. Nothing in Lean hashes anything: it is a label: what it is worth is what the hold of that sum in a sandbox is worth. -/
noncomputable def Tryz.pinned : Pinned := { name := "ytdjoeakbjackbaagreatdoor", sum := "082424ed205d0cb7ff816623e6933e1854b905333be59c4b494ce0d8c1ac9693", checked := Tryz.checked }
namespace Rows
def none {H : Type} : Left H := { results := [], args := [] }

/- WHAT THE LISTED PACKAGE-LEVEL VARIABLES READ AS WHEN THE CALL BEGINS. Each datum BY PROGRAM (the guide's laid-datum.mjs) off the statement by which the dump's own 'gosem.cut.vars' lays the variable. In a bare row this is a premise. The card (YtdjoeakbjackbaaGreatDoorCards.lean) ties it to the program's text. -/
def laid_unicode_utf8_acceptRanges {H : Type} : DataW H := .agg [.agg [.lit (.int .u8 128), .lit (.int .u8 191)], .agg [.lit (.int .u8 160), .lit (.int .u8 191)], .agg [.lit (.int .u8 128), .lit (.int .u8 159)], .agg [.lit (.int .u8 144), .lit (.int .u8 191)], .agg [.lit (.int .u8 128), .lit (.int .u8 143)], .agg [.lit (.int .u8 0), .lit (.int .u8 0)], .agg [.lit (.int .u8 0), .lit (.int .u8 0)], .agg [.lit (.int .u8 0), .lit (.int .u8 0)], .agg [.lit (.int .u8 0), .lit (.int .u8 0)], .agg [.lit (.int .u8 0), .lit (.int .u8 0)], .agg [.lit (.int .u8 0), .lit (.int .u8 0)], .agg [.lit (.int .u8 0), .lit (.int .u8 0)], .agg [.lit (.int .u8 0), .lit (.int .u8 0)], .agg [.lit (.int .u8 0), .lit (.int .u8 0)], .agg [.lit (.int .u8 0), .lit (.int .u8 0)], .agg [.lit (.int .u8 0), .lit (.int .u8 0)]]
/-- One of Go's own tables, pinned by name: the form's constant. -/
def laid_unicode_utf8_first : DataW Unit := Go.Pinned.utf8First

/-- 'annuletlaw35.LearnAnswers': WHATEVER THE INPUT: true; the input reads as it did. -/
def learnAnswersSpec : ChangeSpec := { name := "learnAnswers", fn := fun _ => fun
  | [d1, d2, d3] => { results := [.lit (.bool true)], args := [d1, d2, d3] }
  | _ => none }
def learnAnswersRow : OpenClaim := { program := "ytdjoeakbjackbaagreatdoor", sum := "082424ed205d0cb7ff816623e6933e1854b905333be59c4b494ce0d8c1ac9693", func := "annulet/annuletlaw35.LearnAnswers", spec := "learnAnswers", inPlace := ["slices.overlaps[annulet/api.Entry]", "slices.overlaps[annulet/api.Finger]", "slices.overlaps[annulet/api.Pair]"], unfollowed := true, recurses := true, named := ["unicode/utf8.first", "unicode/utf8.acceptRanges"], apart := false, laid := [("unicode/utf8.acceptRanges", laid_unicode_utf8_acceptRanges), ("unicode/utf8.first", laid_unicode_utf8_first)] }
def LearnAnswersSaid : Prop := learnAnswersRow.holds Tryz.pinned (OpenSpec.ofChange learnAnswersSpec)

/-- ITS FALSE NEIGHBOUR: 'it returns false'. Refute it at one input. -/
def learnAnswersWrong : ChangeSpec := { name := "learnAnswers", fn := fun _ => fun
  | [d1, d2, d3] => { results := [.lit (.bool false)], args := [d1, d2, d3] }
  | _ => none }
def LearnAnswersWrongFalsely : Prop := learnAnswersRow.holds Tryz.pinned (OpenSpec.ofChange learnAnswersWrong)

/-- 'annuletlaw35.LearnMisses': WHATEVER THE INPUT: true; the input reads as it did. -/
def learnMissesSpec : ChangeSpec := { name := "learnMisses", fn := fun _ => fun
  | [d1, d2, d3] => { results := [.lit (.bool true)], args := [d1, d2, d3] }
  | _ => none }
def learnMissesRow : OpenClaim := { program := "ytdjoeakbjackbaagreatdoor", sum := "082424ed205d0cb7ff816623e6933e1854b905333be59c4b494ce0d8c1ac9693", func := "annulet/annuletlaw35.LearnMisses", spec := "learnMisses", inPlace := ["slices.overlaps[annulet/api.Entry]", "slices.overlaps[annulet/api.Finger]", "slices.overlaps[annulet/api.Pair]"], unfollowed := true, recurses := true, named := ["unicode/utf8.first", "unicode/utf8.acceptRanges"], apart := false, laid := [("unicode/utf8.acceptRanges", laid_unicode_utf8_acceptRanges), ("unicode/utf8.first", laid_unicode_utf8_first)] }
def LearnMissesSaid : Prop := learnMissesRow.holds Tryz.pinned (OpenSpec.ofChange learnMissesSpec)

/-- ITS FALSE NEIGHBOUR: 'it returns false'. Refute it at one input. -/
def learnMissesWrong : ChangeSpec := { name := "learnMisses", fn := fun _ => fun
  | [d1, d2, d3] => { results := [.lit (.bool false)], args := [d1, d2, d3] }
  | _ => none }
def LearnMissesWrongFalsely : Prop := learnMissesRow.holds Tryz.pinned (OpenSpec.ofChange learnMissesWrong)

/-- 'annuletlaw35.LearnSelf': WHATEVER THE INPUT: true; the input reads as it did. -/
def learnSelfSpec : ChangeSpec := { name := "learnSelf", fn := fun _ => fun
  | [d1, d2, d3] => { results := [.lit (.bool true)], args := [d1, d2, d3] }
  | _ => none }
def learnSelfRow : OpenClaim := { program := "ytdjoeakbjackbaagreatdoor", sum := "082424ed205d0cb7ff816623e6933e1854b905333be59c4b494ce0d8c1ac9693", func := "annulet/annuletlaw35.LearnSelf", spec := "learnSelf", inPlace := ["slices.overlaps[annulet/api.Entry]", "slices.overlaps[annulet/api.Finger]", "slices.overlaps[annulet/api.Pair]"], unfollowed := true, recurses := true, named := ["unicode/utf8.first", "unicode/utf8.acceptRanges"], apart := false, laid := [("unicode/utf8.acceptRanges", laid_unicode_utf8_acceptRanges), ("unicode/utf8.first", laid_unicode_utf8_first)] }
def LearnSelfSaid : Prop := learnSelfRow.holds Tryz.pinned (OpenSpec.ofChange learnSelfSpec)

/-- ITS FALSE NEIGHBOUR: 'it returns false'. Refute it at one input. -/
def learnSelfWrong : ChangeSpec := { name := "learnSelf", fn := fun _ => fun
  | [d1, d2, d3] => { results := [.lit (.bool false)], args := [d1, d2, d3] }
  | _ => none }
def LearnSelfWrongFalsely : Prop := learnSelfRow.holds Tryz.pinned (OpenSpec.ofChange learnSelfWrong)

/-- 'annuletlaw36.TendTicks': WHATEVER THE INPUT: true; the input reads as it did. -/
def tendTicksSpec : ChangeSpec := { name := "tendTicks", fn := fun _ => fun
  | [d] => { results := [.lit (.bool true)], args := [d] }
  | _ => none }
def tendTicksRow : OpenClaim := { program := "ytdjoeakbjackbaagreatdoor", sum := "082424ed205d0cb7ff816623e6933e1854b905333be59c4b494ce0d8c1ac9693", func := "annulet/annuletlaw36.TendTicks", spec := "tendTicks", inPlace := ["slices.overlaps[annulet/api.Finger]", "slices.overlaps[annulet/api.Pair]"], unfollowed := true, recurses := true, named := ["unicode/utf8.first", "unicode/utf8.acceptRanges"], apart := false, laid := [("unicode/utf8.acceptRanges", laid_unicode_utf8_acceptRanges), ("unicode/utf8.first", laid_unicode_utf8_first)] }
def TendTicksSaid : Prop := tendTicksRow.holds Tryz.pinned (OpenSpec.ofChange tendTicksSpec)

/-- ITS FALSE NEIGHBOUR: 'it returns false'. Refute it at one input. -/
def tendTicksWrong : ChangeSpec := { name := "tendTicks", fn := fun _ => fun
  | [d] => { results := [.lit (.bool false)], args := [d] }
  | _ => none }
def TendTicksWrongFalsely : Prop := tendTicksRow.holds Tryz.pinned (OpenSpec.ofChange tendTicksWrong)

/-- 'annuletlaw36.TendBeats': WHATEVER THE INPUT: true; the input reads as it did. -/
def tendBeatsSpec : ChangeSpec := { name := "tendBeats", fn := fun _ => fun
  | [d] => { results := [.lit (.bool true)], args := [d] }
  | _ => none }
def tendBeatsRow : OpenClaim := { program := "ytdjoeakbjackbaagreatdoor", sum := "082424ed205d0cb7ff816623e6933e1854b905333be59c4b494ce0d8c1ac9693", func := "annulet/annuletlaw36.TendBeats", spec := "tendBeats", inPlace := ["slices.overlaps[annulet/api.Finger]", "slices.overlaps[annulet/api.Pair]"], unfollowed := true, recurses := true, named := ["unicode/utf8.first", "unicode/utf8.acceptRanges"], apart := false, laid := [("unicode/utf8.acceptRanges", laid_unicode_utf8_acceptRanges), ("unicode/utf8.first", laid_unicode_utf8_first)] }
def TendBeatsSaid : Prop := tendBeatsRow.holds Tryz.pinned (OpenSpec.ofChange tendBeatsSpec)

/-- ITS FALSE NEIGHBOUR: 'it returns false'. Refute it at one input. -/
def tendBeatsWrong : ChangeSpec := { name := "tendBeats", fn := fun _ => fun
  | [d] => { results := [.lit (.bool false)], args := [d] }
  | _ => none }
def TendBeatsWrongFalsely : Prop := tendBeatsRow.holds Tryz.pinned (OpenSpec.ofChange tendBeatsWrong)

/-- 'annuletlaw36.TendAlone': WHATEVER THE INPUT: true; the input reads as it did. -/
def tendAloneSpec : ChangeSpec := { name := "tendAlone", fn := fun _ => fun
  | [d1, d2] => { results := [.lit (.bool true)], args := [d1, d2] }
  | _ => none }
def tendAloneRow : OpenClaim := { program := "ytdjoeakbjackbaagreatdoor", sum := "082424ed205d0cb7ff816623e6933e1854b905333be59c4b494ce0d8c1ac9693", func := "annulet/annuletlaw36.TendAlone", spec := "tendAlone", inPlace := ["slices.overlaps[annulet/api.Finger]", "slices.overlaps[annulet/api.Pair]"], unfollowed := true, recurses := true, named := ["unicode/utf8.first", "unicode/utf8.acceptRanges"], apart := false, laid := [("unicode/utf8.acceptRanges", laid_unicode_utf8_acceptRanges), ("unicode/utf8.first", laid_unicode_utf8_first)] }
def TendAloneSaid : Prop := tendAloneRow.holds Tryz.pinned (OpenSpec.ofChange tendAloneSpec)

/-- ITS FALSE NEIGHBOUR: 'it returns false'. Refute it at one input. -/
def tendAloneWrong : ChangeSpec := { name := "tendAlone", fn := fun _ => fun
  | [d1, d2] => { results := [.lit (.bool false)], args := [d1, d2] }
  | _ => none }
def TendAloneWrongFalsely : Prop := tendAloneRow.holds Tryz.pinned (OpenSpec.ofChange tendAloneWrong)

/-- 'annuletlaw37.ChordHears': WHATEVER THE INPUT: true; the input reads as it did. -/
def chordHearsSpec : ChangeSpec := { name := "chordHears", fn := fun _ => fun
  | [d1, d2, d3] => { results := [.lit (.bool true)], args := [d1, d2, d3] }
  | _ => none }
def chordHearsRow : OpenClaim := { program := "ytdjoeakbjackbaagreatdoor", sum := "082424ed205d0cb7ff816623e6933e1854b905333be59c4b494ce0d8c1ac9693", func := "annulet/annuletlaw37.ChordHears", spec := "chordHears", inPlace := ["slices.overlaps[annulet/api.Entry]", "slices.overlaps[annulet/api.Pair]", "slices.overlaps[annulet/api.Finger]"], unfollowed := true, recurses := true, named := ["unicode/utf8.first", "unicode/utf8.acceptRanges"], apart := false, laid := [("unicode/utf8.acceptRanges", laid_unicode_utf8_acceptRanges), ("unicode/utf8.first", laid_unicode_utf8_first)] }
def ChordHearsSaid : Prop := chordHearsRow.holds Tryz.pinned (OpenSpec.ofChange chordHearsSpec)

/-- ITS FALSE NEIGHBOUR: 'it returns false'. Refute it at one input. -/
def chordHearsWrong : ChangeSpec := { name := "chordHears", fn := fun _ => fun
  | [d1, d2, d3] => { results := [.lit (.bool false)], args := [d1, d2, d3] }
  | _ => none }
def ChordHearsWrongFalsely : Prop := chordHearsRow.holds Tryz.pinned (OpenSpec.ofChange chordHearsWrong)

/-- 'annuletlaw37.ChordOnce': WHATEVER THE INPUT: true; the input reads as it did. -/
def chordOnceSpec : ChangeSpec := { name := "chordOnce", fn := fun _ => fun
  | [d1, d2, d3] => { results := [.lit (.bool true)], args := [d1, d2, d3] }
  | _ => none }
def chordOnceRow : OpenClaim := { program := "ytdjoeakbjackbaagreatdoor", sum := "082424ed205d0cb7ff816623e6933e1854b905333be59c4b494ce0d8c1ac9693", func := "annulet/annuletlaw37.ChordOnce", spec := "chordOnce", inPlace := ["slices.overlaps[annulet/api.Entry]", "slices.overlaps[annulet/api.Pair]", "slices.overlaps[annulet/api.Finger]"], unfollowed := true, recurses := true, named := ["unicode/utf8.first", "unicode/utf8.acceptRanges"], apart := false, laid := [("unicode/utf8.acceptRanges", laid_unicode_utf8_acceptRanges), ("unicode/utf8.first", laid_unicode_utf8_first)] }
def ChordOnceSaid : Prop := chordOnceRow.holds Tryz.pinned (OpenSpec.ofChange chordOnceSpec)

/-- ITS FALSE NEIGHBOUR: 'it returns false'. Refute it at one input. -/
def chordOnceWrong : ChangeSpec := { name := "chordOnce", fn := fun _ => fun
  | [d1, d2, d3] => { results := [.lit (.bool false)], args := [d1, d2, d3] }
  | _ => none }
def ChordOnceWrongFalsely : Prop := chordOnceRow.holds Tryz.pinned (OpenSpec.ofChange chordOnceWrong)

/-- 'annuletlaw37.ChordTwo': WHATEVER THE INPUT: true; the input reads as it did. -/
def chordTwoSpec : ChangeSpec := { name := "chordTwo", fn := fun _ => fun
  | [d1, d2] => { results := [.lit (.bool true)], args := [d1, d2] }
  | _ => none }
def chordTwoRow : OpenClaim := { program := "ytdjoeakbjackbaagreatdoor", sum := "082424ed205d0cb7ff816623e6933e1854b905333be59c4b494ce0d8c1ac9693", func := "annulet/annuletlaw37.ChordTwo", spec := "chordTwo", inPlace := ["slices.overlaps[annulet/api.Entry]", "slices.overlaps[annulet/api.Pair]", "slices.overlaps[annulet/api.Finger]"], unfollowed := true, recurses := true, named := ["unicode/utf8.first", "unicode/utf8.acceptRanges"], apart := false, laid := [("unicode/utf8.acceptRanges", laid_unicode_utf8_acceptRanges), ("unicode/utf8.first", laid_unicode_utf8_first)] }
def ChordTwoSaid : Prop := chordTwoRow.holds Tryz.pinned (OpenSpec.ofChange chordTwoSpec)

/-- ITS FALSE NEIGHBOUR: 'it returns false'. Refute it at one input. -/
def chordTwoWrong : ChangeSpec := { name := "chordTwo", fn := fun _ => fun
  | [d1, d2] => { results := [.lit (.bool false)], args := [d1, d2] }
  | _ => none }
def ChordTwoWrongFalsely : Prop := chordTwoRow.holds Tryz.pinned (OpenSpec.ofChange chordTwoWrong)

/- THE SECOND FORM. 'bulk': how many values and letters a reading holds, each counted each time it is reached (what is shared counts as often as it is met; a slice's spare places count too). A statement '..UptoSaid' is the law's where the arguments, and the package variables that the reading takes, are together of bulk at most 1048576: NARROWER than '..Said'. Prove '..Said' where nothing that the law and all that it calls make is longer than what came in: it says more and counts as full. Else prove '..UptoSaid'. A law counts once. -/
mutual
def uptoBulk {H : Type} : DataW H → Nat
  | .lit (.string bytes) => bytes.length + 1
  | .lit _ => 1
  | .nil => 1
  | .ptr d => uptoBulk d + 1
  | .slice elems spare => uptoBulkAll elems + uptoBulkAll spare + 1
  | .agg parts => uptoBulkAll parts + 1
  | .iface _ d => uptoBulk d + 1
  | .map entries => uptoBulkEntries entries + 1
  | .held _ => 1
def uptoBulkAll {H : Type} : List (DataW H) → Nat
  | [] => 0
  | d :: r => uptoBulk d + uptoBulkAll r
def uptoBulkEntries {H : Type} : List (Lit × DataW H) → Nat
  | [] => 0
  | x :: r => uptoBulkEntry x + uptoBulkEntries r
def uptoBulkEntry {H : Type} : Lit × DataW H → Nat
  | (.string bytes, d) => bytes.length + uptoBulk d + 1
  | (_, d) => uptoBulk d + 1
 end
def uptoSmall : (H : Type) → List (DataW H) → Bool := fun _ ds => decide (uptoBulkAll ds ≤ 1048576)
def OpenSpec.upto (s : _root_.Go.ChangeSpec) : _root_.Go.OpenSpec := { _root_.Go.OpenSpec.ofChange s with cond := some uptoSmall }

/-- 'annuletlaw35.LearnAnswers', WHERE WHAT IT READS IS OF BULK AT MOST 1048576: true; the input reads as it did. -/
def learnAnswersUptoRow : OpenClaim := { program := "ytdjoeakbjackbaagreatdoor", sum := "082424ed205d0cb7ff816623e6933e1854b905333be59c4b494ce0d8c1ac9693", func := "annulet/annuletlaw35.LearnAnswers", spec := "learnAnswers", inPlace := ["slices.overlaps[annulet/api.Entry]", "slices.overlaps[annulet/api.Finger]", "slices.overlaps[annulet/api.Pair]"], unfollowed := true, recurses := true, named := ["unicode/utf8.first", "unicode/utf8.acceptRanges"], apart := false, laid := [("unicode/utf8.acceptRanges", laid_unicode_utf8_acceptRanges), ("unicode/utf8.first", laid_unicode_utf8_first)], narrowed := true }
def LearnAnswersUptoSaid : Prop := learnAnswersUptoRow.holds Tryz.pinned (OpenSpec.upto learnAnswersSpec)

/-- 'annuletlaw35.LearnMisses', WHERE WHAT IT READS IS OF BULK AT MOST 1048576: true; the input reads as it did. -/
def learnMissesUptoRow : OpenClaim := { program := "ytdjoeakbjackbaagreatdoor", sum := "082424ed205d0cb7ff816623e6933e1854b905333be59c4b494ce0d8c1ac9693", func := "annulet/annuletlaw35.LearnMisses", spec := "learnMisses", inPlace := ["slices.overlaps[annulet/api.Entry]", "slices.overlaps[annulet/api.Finger]", "slices.overlaps[annulet/api.Pair]"], unfollowed := true, recurses := true, named := ["unicode/utf8.first", "unicode/utf8.acceptRanges"], apart := false, laid := [("unicode/utf8.acceptRanges", laid_unicode_utf8_acceptRanges), ("unicode/utf8.first", laid_unicode_utf8_first)], narrowed := true }
def LearnMissesUptoSaid : Prop := learnMissesUptoRow.holds Tryz.pinned (OpenSpec.upto learnMissesSpec)

/-- 'annuletlaw35.LearnSelf', WHERE WHAT IT READS IS OF BULK AT MOST 1048576: true; the input reads as it did. -/
def learnSelfUptoRow : OpenClaim := { program := "ytdjoeakbjackbaagreatdoor", sum := "082424ed205d0cb7ff816623e6933e1854b905333be59c4b494ce0d8c1ac9693", func := "annulet/annuletlaw35.LearnSelf", spec := "learnSelf", inPlace := ["slices.overlaps[annulet/api.Entry]", "slices.overlaps[annulet/api.Finger]", "slices.overlaps[annulet/api.Pair]"], unfollowed := true, recurses := true, named := ["unicode/utf8.first", "unicode/utf8.acceptRanges"], apart := false, laid := [("unicode/utf8.acceptRanges", laid_unicode_utf8_acceptRanges), ("unicode/utf8.first", laid_unicode_utf8_first)], narrowed := true }
def LearnSelfUptoSaid : Prop := learnSelfUptoRow.holds Tryz.pinned (OpenSpec.upto learnSelfSpec)

/-- 'annuletlaw36.TendTicks', WHERE WHAT IT READS IS OF BULK AT MOST 1048576: true; the input reads as it did. -/
def tendTicksUptoRow : OpenClaim := { program := "ytdjoeakbjackbaagreatdoor", sum := "082424ed205d0cb7ff816623e6933e1854b905333be59c4b494ce0d8c1ac9693", func := "annulet/annuletlaw36.TendTicks", spec := "tendTicks", inPlace := ["slices.overlaps[annulet/api.Finger]", "slices.overlaps[annulet/api.Pair]"], unfollowed := true, recurses := true, named := ["unicode/utf8.first", "unicode/utf8.acceptRanges"], apart := false, laid := [("unicode/utf8.acceptRanges", laid_unicode_utf8_acceptRanges), ("unicode/utf8.first", laid_unicode_utf8_first)], narrowed := true }
def TendTicksUptoSaid : Prop := tendTicksUptoRow.holds Tryz.pinned (OpenSpec.upto tendTicksSpec)

/-- 'annuletlaw36.TendBeats', WHERE WHAT IT READS IS OF BULK AT MOST 1048576: true; the input reads as it did. -/
def tendBeatsUptoRow : OpenClaim := { program := "ytdjoeakbjackbaagreatdoor", sum := "082424ed205d0cb7ff816623e6933e1854b905333be59c4b494ce0d8c1ac9693", func := "annulet/annuletlaw36.TendBeats", spec := "tendBeats", inPlace := ["slices.overlaps[annulet/api.Finger]", "slices.overlaps[annulet/api.Pair]"], unfollowed := true, recurses := true, named := ["unicode/utf8.first", "unicode/utf8.acceptRanges"], apart := false, laid := [("unicode/utf8.acceptRanges", laid_unicode_utf8_acceptRanges), ("unicode/utf8.first", laid_unicode_utf8_first)], narrowed := true }
def TendBeatsUptoSaid : Prop := tendBeatsUptoRow.holds Tryz.pinned (OpenSpec.upto tendBeatsSpec)

/-- 'annuletlaw36.TendAlone', WHERE WHAT IT READS IS OF BULK AT MOST 1048576: true; the input reads as it did. -/
def tendAloneUptoRow : OpenClaim := { program := "ytdjoeakbjackbaagreatdoor", sum := "082424ed205d0cb7ff816623e6933e1854b905333be59c4b494ce0d8c1ac9693", func := "annulet/annuletlaw36.TendAlone", spec := "tendAlone", inPlace := ["slices.overlaps[annulet/api.Finger]", "slices.overlaps[annulet/api.Pair]"], unfollowed := true, recurses := true, named := ["unicode/utf8.first", "unicode/utf8.acceptRanges"], apart := false, laid := [("unicode/utf8.acceptRanges", laid_unicode_utf8_acceptRanges), ("unicode/utf8.first", laid_unicode_utf8_first)], narrowed := true }
def TendAloneUptoSaid : Prop := tendAloneUptoRow.holds Tryz.pinned (OpenSpec.upto tendAloneSpec)

/-- 'annuletlaw37.ChordHears', WHERE WHAT IT READS IS OF BULK AT MOST 1048576: true; the input reads as it did. -/
def chordHearsUptoRow : OpenClaim := { program := "ytdjoeakbjackbaagreatdoor", sum := "082424ed205d0cb7ff816623e6933e1854b905333be59c4b494ce0d8c1ac9693", func := "annulet/annuletlaw37.ChordHears", spec := "chordHears", inPlace := ["slices.overlaps[annulet/api.Entry]", "slices.overlaps[annulet/api.Pair]", "slices.overlaps[annulet/api.Finger]"], unfollowed := true, recurses := true, named := ["unicode/utf8.first", "unicode/utf8.acceptRanges"], apart := false, laid := [("unicode/utf8.acceptRanges", laid_unicode_utf8_acceptRanges), ("unicode/utf8.first", laid_unicode_utf8_first)], narrowed := true }
def ChordHearsUptoSaid : Prop := chordHearsUptoRow.holds Tryz.pinned (OpenSpec.upto chordHearsSpec)

/-- 'annuletlaw37.ChordOnce', WHERE WHAT IT READS IS OF BULK AT MOST 1048576: true; the input reads as it did. -/
def chordOnceUptoRow : OpenClaim := { program := "ytdjoeakbjackbaagreatdoor", sum := "082424ed205d0cb7ff816623e6933e1854b905333be59c4b494ce0d8c1ac9693", func := "annulet/annuletlaw37.ChordOnce", spec := "chordOnce", inPlace := ["slices.overlaps[annulet/api.Entry]", "slices.overlaps[annulet/api.Pair]", "slices.overlaps[annulet/api.Finger]"], unfollowed := true, recurses := true, named := ["unicode/utf8.first", "unicode/utf8.acceptRanges"], apart := false, laid := [("unicode/utf8.acceptRanges", laid_unicode_utf8_acceptRanges), ("unicode/utf8.first", laid_unicode_utf8_first)], narrowed := true }
def ChordOnceUptoSaid : Prop := chordOnceUptoRow.holds Tryz.pinned (OpenSpec.upto chordOnceSpec)

/-- 'annuletlaw37.ChordTwo', WHERE WHAT IT READS IS OF BULK AT MOST 1048576: true; the input reads as it did. -/
def chordTwoUptoRow : OpenClaim := { program := "ytdjoeakbjackbaagreatdoor", sum := "082424ed205d0cb7ff816623e6933e1854b905333be59c4b494ce0d8c1ac9693", func := "annulet/annuletlaw37.ChordTwo", spec := "chordTwo", inPlace := ["slices.overlaps[annulet/api.Entry]", "slices.overlaps[annulet/api.Pair]", "slices.overlaps[annulet/api.Finger]"], unfollowed := true, recurses := true, named := ["unicode/utf8.first", "unicode/utf8.acceptRanges"], apart := false, laid := [("unicode/utf8.acceptRanges", laid_unicode_utf8_acceptRanges), ("unicode/utf8.first", laid_unicode_utf8_first)], narrowed := true }
def ChordTwoUptoSaid : Prop := chordTwoUptoRow.holds Tryz.pinned (OpenSpec.upto chordTwoSpec)

end Rows
end Go.Proofs.YtdjoeakbjackbaaGreatDoor
