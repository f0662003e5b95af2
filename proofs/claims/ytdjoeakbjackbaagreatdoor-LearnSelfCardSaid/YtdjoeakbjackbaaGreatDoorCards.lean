/-
  DERIVED. GIVEN WITH THE SEED: THE CARDS: each row of YtdjoeakbjackbaaGreatDoorRows.lean that lists a variable, with what it lists TIED to the program's text (the seventh form; the later family's looks); each row that meets fmt, with fmt's text TOLD by the authors' own Lean function (tested against real Go, not proved from fmt's source: count such statements apart). THE CARD IS WHAT COUNTS. Prove the row's statement (the work); the ties are given (YtdjoeakbjackbaaGreatDoorTie.lean); close each card by the builder's one call (the guide's Derived/Test/ToyasCard.lean, 'card_holds'). Laid BY PROGRAM, IN A SANDBOX (cutbox-door.mjs). By AI agents, Wed Nov 11 2026. No macro, syntax, notation, axiom, sorry.
-/
import Derived.Test.YtdjoeakbjackbaaGreatDoorRows
import GoSem.ClaimSeven
namespace Go.Proofs.YtdjoeakbjackbaaGreatDoor
namespace Rows

/-- THE TIED CARD OF 'annuletlaw35.LearnAnswers'. -/
def learnAnswersCard : Claim7 := { stood := { row := learnAnswersRow, standIns := [], harness := (true, "2986f696989c774690f31a275f22fc0c45d9ab2419357a0fed667cce49442e37"), looks := false }, kinds := [], alts := [], laidByText := true, laidKinds := [.data, .pinned], laidTests := true, laidLooks := .later }
def LearnAnswersCardSaid : Prop := Claim7.holds Tryz.pinned (.plain (OpenSpec.ofChange learnAnswersSpec)) learnAnswersCard

/-- THE TIED CARD OF 'annuletlaw35.LearnMisses'. -/
def learnMissesCard : Claim7 := { stood := { row := learnMissesRow, standIns := [], harness := (true, "2986f696989c774690f31a275f22fc0c45d9ab2419357a0fed667cce49442e37"), looks := false }, kinds := [], alts := [], laidByText := true, laidKinds := [.data, .pinned], laidTests := true, laidLooks := .later }
def LearnMissesCardSaid : Prop := Claim7.holds Tryz.pinned (.plain (OpenSpec.ofChange learnMissesSpec)) learnMissesCard

/-- THE TIED CARD OF 'annuletlaw35.LearnSelf'. -/
def learnSelfCard : Claim7 := { stood := { row := learnSelfRow, standIns := [], harness := (true, "2986f696989c774690f31a275f22fc0c45d9ab2419357a0fed667cce49442e37"), looks := false }, kinds := [], alts := [], laidByText := true, laidKinds := [.data, .pinned], laidTests := true, laidLooks := .later }
def LearnSelfCardSaid : Prop := Claim7.holds Tryz.pinned (.plain (OpenSpec.ofChange learnSelfSpec)) learnSelfCard

/-- THE TIED CARD OF 'annuletlaw36.TendTicks'. -/
def tendTicksCard : Claim7 := { stood := { row := tendTicksRow, standIns := [], harness := (true, "2986f696989c774690f31a275f22fc0c45d9ab2419357a0fed667cce49442e37"), looks := false }, kinds := [], alts := [], laidByText := true, laidKinds := [.data, .pinned], laidTests := true, laidLooks := .later }
def TendTicksCardSaid : Prop := Claim7.holds Tryz.pinned (.plain (OpenSpec.ofChange tendTicksSpec)) tendTicksCard

/-- THE TIED CARD OF 'annuletlaw36.TendBeats'. -/
def tendBeatsCard : Claim7 := { stood := { row := tendBeatsRow, standIns := [], harness := (true, "2986f696989c774690f31a275f22fc0c45d9ab2419357a0fed667cce49442e37"), looks := false }, kinds := [], alts := [], laidByText := true, laidKinds := [.data, .pinned], laidTests := true, laidLooks := .later }
def TendBeatsCardSaid : Prop := Claim7.holds Tryz.pinned (.plain (OpenSpec.ofChange tendBeatsSpec)) tendBeatsCard

/-- THE TIED CARD OF 'annuletlaw36.TendAlone'. -/
def tendAloneCard : Claim7 := { stood := { row := tendAloneRow, standIns := [], harness := (true, "2986f696989c774690f31a275f22fc0c45d9ab2419357a0fed667cce49442e37"), looks := false }, kinds := [], alts := [], laidByText := true, laidKinds := [.data, .pinned], laidTests := true, laidLooks := .later }
def TendAloneCardSaid : Prop := Claim7.holds Tryz.pinned (.plain (OpenSpec.ofChange tendAloneSpec)) tendAloneCard

/-- THE TIED CARD OF 'annuletlaw37.ChordHears'. -/
def chordHearsCard : Claim7 := { stood := { row := chordHearsRow, standIns := [], harness := (true, "2986f696989c774690f31a275f22fc0c45d9ab2419357a0fed667cce49442e37"), looks := false }, kinds := [], alts := [], laidByText := true, laidKinds := [.data, .pinned], laidTests := true, laidLooks := .later }
def ChordHearsCardSaid : Prop := Claim7.holds Tryz.pinned (.plain (OpenSpec.ofChange chordHearsSpec)) chordHearsCard

/-- THE TIED CARD OF 'annuletlaw37.ChordOnce'. -/
def chordOnceCard : Claim7 := { stood := { row := chordOnceRow, standIns := [], harness := (true, "2986f696989c774690f31a275f22fc0c45d9ab2419357a0fed667cce49442e37"), looks := false }, kinds := [], alts := [], laidByText := true, laidKinds := [.data, .pinned], laidTests := true, laidLooks := .later }
def ChordOnceCardSaid : Prop := Claim7.holds Tryz.pinned (.plain (OpenSpec.ofChange chordOnceSpec)) chordOnceCard

/-- THE TIED CARD OF 'annuletlaw37.ChordTwo'. -/
def chordTwoCard : Claim7 := { stood := { row := chordTwoRow, standIns := [], harness := (true, "2986f696989c774690f31a275f22fc0c45d9ab2419357a0fed667cce49442e37"), looks := false }, kinds := [], alts := [], laidByText := true, laidKinds := [.data, .pinned], laidTests := true, laidLooks := .later }
def ChordTwoCardSaid : Prop := Claim7.holds Tryz.pinned (.plain (OpenSpec.ofChange chordTwoSpec)) chordTwoCard

/-- THE SECOND FORM's CARD OF 'annuletlaw35.LearnAnswers'. -/
def learnAnswersUptoCard : Claim7 := { stood := { row := learnAnswersUptoRow, standIns := [], harness := (true, "2986f696989c774690f31a275f22fc0c45d9ab2419357a0fed667cce49442e37"), looks := false }, kinds := [], alts := [], laidByText := true, laidKinds := [.data, .pinned], laidTests := true, laidLooks := .later }
def LearnAnswersUptoCardSaid : Prop := Claim7.holds Tryz.pinned (.plain (OpenSpec.upto learnAnswersSpec)) learnAnswersUptoCard

/-- THE SECOND FORM's CARD OF 'annuletlaw35.LearnMisses'. -/
def learnMissesUptoCard : Claim7 := { stood := { row := learnMissesUptoRow, standIns := [], harness := (true, "2986f696989c774690f31a275f22fc0c45d9ab2419357a0fed667cce49442e37"), looks := false }, kinds := [], alts := [], laidByText := true, laidKinds := [.data, .pinned], laidTests := true, laidLooks := .later }
def LearnMissesUptoCardSaid : Prop := Claim7.holds Tryz.pinned (.plain (OpenSpec.upto learnMissesSpec)) learnMissesUptoCard

/-- THE SECOND FORM's CARD OF 'annuletlaw35.LearnSelf'. -/
def learnSelfUptoCard : Claim7 := { stood := { row := learnSelfUptoRow, standIns := [], harness := (true, "2986f696989c774690f31a275f22fc0c45d9ab2419357a0fed667cce49442e37"), looks := false }, kinds := [], alts := [], laidByText := true, laidKinds := [.data, .pinned], laidTests := true, laidLooks := .later }
def LearnSelfUptoCardSaid : Prop := Claim7.holds Tryz.pinned (.plain (OpenSpec.upto learnSelfSpec)) learnSelfUptoCard

/-- THE SECOND FORM's CARD OF 'annuletlaw36.TendTicks'. -/
def tendTicksUptoCard : Claim7 := { stood := { row := tendTicksUptoRow, standIns := [], harness := (true, "2986f696989c774690f31a275f22fc0c45d9ab2419357a0fed667cce49442e37"), looks := false }, kinds := [], alts := [], laidByText := true, laidKinds := [.data, .pinned], laidTests := true, laidLooks := .later }
def TendTicksUptoCardSaid : Prop := Claim7.holds Tryz.pinned (.plain (OpenSpec.upto tendTicksSpec)) tendTicksUptoCard

/-- THE SECOND FORM's CARD OF 'annuletlaw36.TendBeats'. -/
def tendBeatsUptoCard : Claim7 := { stood := { row := tendBeatsUptoRow, standIns := [], harness := (true, "2986f696989c774690f31a275f22fc0c45d9ab2419357a0fed667cce49442e37"), looks := false }, kinds := [], alts := [], laidByText := true, laidKinds := [.data, .pinned], laidTests := true, laidLooks := .later }
def TendBeatsUptoCardSaid : Prop := Claim7.holds Tryz.pinned (.plain (OpenSpec.upto tendBeatsSpec)) tendBeatsUptoCard

/-- THE SECOND FORM's CARD OF 'annuletlaw36.TendAlone'. -/
def tendAloneUptoCard : Claim7 := { stood := { row := tendAloneUptoRow, standIns := [], harness := (true, "2986f696989c774690f31a275f22fc0c45d9ab2419357a0fed667cce49442e37"), looks := false }, kinds := [], alts := [], laidByText := true, laidKinds := [.data, .pinned], laidTests := true, laidLooks := .later }
def TendAloneUptoCardSaid : Prop := Claim7.holds Tryz.pinned (.plain (OpenSpec.upto tendAloneSpec)) tendAloneUptoCard

/-- THE SECOND FORM's CARD OF 'annuletlaw37.ChordHears'. -/
def chordHearsUptoCard : Claim7 := { stood := { row := chordHearsUptoRow, standIns := [], harness := (true, "2986f696989c774690f31a275f22fc0c45d9ab2419357a0fed667cce49442e37"), looks := false }, kinds := [], alts := [], laidByText := true, laidKinds := [.data, .pinned], laidTests := true, laidLooks := .later }
def ChordHearsUptoCardSaid : Prop := Claim7.holds Tryz.pinned (.plain (OpenSpec.upto chordHearsSpec)) chordHearsUptoCard

/-- THE SECOND FORM's CARD OF 'annuletlaw37.ChordOnce'. -/
def chordOnceUptoCard : Claim7 := { stood := { row := chordOnceUptoRow, standIns := [], harness := (true, "2986f696989c774690f31a275f22fc0c45d9ab2419357a0fed667cce49442e37"), looks := false }, kinds := [], alts := [], laidByText := true, laidKinds := [.data, .pinned], laidTests := true, laidLooks := .later }
def ChordOnceUptoCardSaid : Prop := Claim7.holds Tryz.pinned (.plain (OpenSpec.upto chordOnceSpec)) chordOnceUptoCard

/-- THE SECOND FORM's CARD OF 'annuletlaw37.ChordTwo'. -/
def chordTwoUptoCard : Claim7 := { stood := { row := chordTwoUptoRow, standIns := [], harness := (true, "2986f696989c774690f31a275f22fc0c45d9ab2419357a0fed667cce49442e37"), looks := false }, kinds := [], alts := [], laidByText := true, laidKinds := [.data, .pinned], laidTests := true, laidLooks := .later }
def ChordTwoUptoCardSaid : Prop := Claim7.holds Tryz.pinned (.plain (OpenSpec.upto chordTwoSpec)) chordTwoUptoCard
end Rows
end Go.Proofs.YtdjoeakbjackbaaGreatDoor
