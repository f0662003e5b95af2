/-
  DERIVED. GIVEN WITH THE SEED: THE CARDS: each row of YtjmmobicnfojeaaGreatDoorRows.lean that lists a variable, with what it lists TIED to the program's text (the seventh form; the later family's looks); each row that meets fmt, with fmt's text TOLD by the authors' own Lean function (tested against real Go, not proved from fmt's source: count such statements apart). THE CARD IS WHAT COUNTS. Prove the row's statement (the work); the ties are given (YtjmmobicnfojeaaGreatDoorTie.lean); close each card by the builder's one call (the guide's Derived/Test/ToyasCard.lean, 'card_holds'). Laid BY PROGRAM, IN A SANDBOX (cutbox-door.mjs). By AI agents, Wed Nov 11 2026. No macro, syntax, notation, axiom, sorry.
-/
import Derived.Test.YtjmmobicnfojeaaGreatDoorRows
import GoSem.ClaimSeven
namespace Go.Proofs.YtjmmobicnfojeaaGreatDoor
namespace Rows

/-- THE TIED CARD OF 'annuletlaw33.ServeAnswers'. -/
def serveAnswersCard : Claim7 := { stood := { row := serveAnswersRow, standIns := [], harness := (true, "0dee92e9a5b8fae4ebc174d5ff21325cb42968737336fefe4f8422179dce6d0c"), looks := false }, kinds := [], alts := [], laidByText := true, laidKinds := [.data, .pinned], laidTests := true, laidLooks := .later }
def ServeAnswersCardSaid : Prop := Claim7.holds Tryz.pinned (.plain (OpenSpec.ofChange serveAnswersSpec)) serveAnswersCard

/-- THE TIED CARD OF 'annuletlaw33.ServeKeeps'. -/
def serveKeepsCard : Claim7 := { stood := { row := serveKeepsRow, standIns := [], harness := (true, "0dee92e9a5b8fae4ebc174d5ff21325cb42968737336fefe4f8422179dce6d0c"), looks := false }, kinds := [], alts := [], laidByText := true, laidKinds := [.data, .pinned], laidTests := true, laidLooks := .later }
def ServeKeepsCardSaid : Prop := Claim7.holds Tryz.pinned (.plain (OpenSpec.ofChange serveKeepsSpec)) serveKeepsCard

/-- THE TIED CARD OF 'annuletlaw33.ServeGets'. -/
def serveGetsCard : Claim7 := { stood := { row := serveGetsRow, standIns := [], harness := (true, "0dee92e9a5b8fae4ebc174d5ff21325cb42968737336fefe4f8422179dce6d0c"), looks := false }, kinds := [], alts := [], laidByText := true, laidKinds := [.data, .pinned], laidTests := true, laidLooks := .later }
def ServeGetsCardSaid : Prop := Claim7.holds Tryz.pinned (.plain (OpenSpec.ofChange serveGetsSpec)) serveGetsCard

/-- THE TIED CARD OF 'annuletlaw34.WorkAlone'. -/
def workAloneCard : Claim7 := { stood := { row := workAloneRow, standIns := [], harness := (true, "0dee92e9a5b8fae4ebc174d5ff21325cb42968737336fefe4f8422179dce6d0c"), looks := false }, kinds := [], alts := [], laidByText := true, laidKinds := [.data, .pinned], laidTests := true, laidLooks := .later }
def WorkAloneCardSaid : Prop := Claim7.holds Tryz.pinned (.plain (OpenSpec.ofChange workAloneSpec)) workAloneCard

/-- THE TIED CARD OF 'annuletlaw34.WorkBegins'. -/
def workBeginsCard : Claim7 := { stood := { row := workBeginsRow, standIns := [], harness := (true, "0dee92e9a5b8fae4ebc174d5ff21325cb42968737336fefe4f8422179dce6d0c"), looks := false }, kinds := [], alts := [], laidByText := true, laidKinds := [.data, .pinned], laidTests := true, laidLooks := .later }
def WorkBeginsCardSaid : Prop := Claim7.holds Tryz.pinned (.plain (OpenSpec.ofChange workBeginsSpec)) workBeginsCard

/-- THE TIED CARD OF 'annuletlaw34.WorkEnds'. -/
def workEndsCard : Claim7 := { stood := { row := workEndsRow, standIns := [], harness := (true, "0dee92e9a5b8fae4ebc174d5ff21325cb42968737336fefe4f8422179dce6d0c"), looks := false }, kinds := [], alts := [], laidByText := true, laidKinds := [.data, .pinned], laidTests := true, laidLooks := .later }
def WorkEndsCardSaid : Prop := Claim7.holds Tryz.pinned (.plain (OpenSpec.ofChange workEndsSpec)) workEndsCard

/-- THE TIED CARD OF 'annuletlaw33.ServeRight'. -/
def serveRightCard : Claim7 := { stood := { row := serveRightRow, standIns := [], harness := (true, "0dee92e9a5b8fae4ebc174d5ff21325cb42968737336fefe4f8422179dce6d0c"), looks := false }, kinds := [], alts := [], laidByText := true, laidKinds := [.data, .pinned], laidTests := true, laidLooks := .later }
def ServeRightCardSaid : Prop := Claim7.holds Tryz.pinned (.plain (OpenSpec.ofChange serveRightSpec)) serveRightCard

/-- THE TIED CARD OF 'annuletlaw34.WorkGoes'. -/
def workGoesCard : Claim7 := { stood := { row := workGoesRow, standIns := [], harness := (true, "0dee92e9a5b8fae4ebc174d5ff21325cb42968737336fefe4f8422179dce6d0c"), looks := false }, kinds := [], alts := [], laidByText := true, laidKinds := [.data, .pinned], laidTests := true, laidLooks := .later }
def WorkGoesCardSaid : Prop := Claim7.holds Tryz.pinned (.plain (OpenSpec.ofChange workGoesSpec)) workGoesCard

/-- THE SECOND FORM's CARD OF 'annuletlaw33.ServeAnswers'. -/
def serveAnswersUptoCard : Claim7 := { stood := { row := serveAnswersUptoRow, standIns := [], harness := (true, "0dee92e9a5b8fae4ebc174d5ff21325cb42968737336fefe4f8422179dce6d0c"), looks := false }, kinds := [], alts := [], laidByText := true, laidKinds := [.data, .pinned], laidTests := true, laidLooks := .later }
def ServeAnswersUptoCardSaid : Prop := Claim7.holds Tryz.pinned (.plain (OpenSpec.upto serveAnswersSpec)) serveAnswersUptoCard

/-- THE SECOND FORM's CARD OF 'annuletlaw33.ServeKeeps'. -/
def serveKeepsUptoCard : Claim7 := { stood := { row := serveKeepsUptoRow, standIns := [], harness := (true, "0dee92e9a5b8fae4ebc174d5ff21325cb42968737336fefe4f8422179dce6d0c"), looks := false }, kinds := [], alts := [], laidByText := true, laidKinds := [.data, .pinned], laidTests := true, laidLooks := .later }
def ServeKeepsUptoCardSaid : Prop := Claim7.holds Tryz.pinned (.plain (OpenSpec.upto serveKeepsSpec)) serveKeepsUptoCard

/-- THE SECOND FORM's CARD OF 'annuletlaw33.ServeGets'. -/
def serveGetsUptoCard : Claim7 := { stood := { row := serveGetsUptoRow, standIns := [], harness := (true, "0dee92e9a5b8fae4ebc174d5ff21325cb42968737336fefe4f8422179dce6d0c"), looks := false }, kinds := [], alts := [], laidByText := true, laidKinds := [.data, .pinned], laidTests := true, laidLooks := .later }
def ServeGetsUptoCardSaid : Prop := Claim7.holds Tryz.pinned (.plain (OpenSpec.upto serveGetsSpec)) serveGetsUptoCard

/-- THE SECOND FORM's CARD OF 'annuletlaw34.WorkAlone'. -/
def workAloneUptoCard : Claim7 := { stood := { row := workAloneUptoRow, standIns := [], harness := (true, "0dee92e9a5b8fae4ebc174d5ff21325cb42968737336fefe4f8422179dce6d0c"), looks := false }, kinds := [], alts := [], laidByText := true, laidKinds := [.data, .pinned], laidTests := true, laidLooks := .later }
def WorkAloneUptoCardSaid : Prop := Claim7.holds Tryz.pinned (.plain (OpenSpec.upto workAloneSpec)) workAloneUptoCard

/-- THE SECOND FORM's CARD OF 'annuletlaw34.WorkBegins'. -/
def workBeginsUptoCard : Claim7 := { stood := { row := workBeginsUptoRow, standIns := [], harness := (true, "0dee92e9a5b8fae4ebc174d5ff21325cb42968737336fefe4f8422179dce6d0c"), looks := false }, kinds := [], alts := [], laidByText := true, laidKinds := [.data, .pinned], laidTests := true, laidLooks := .later }
def WorkBeginsUptoCardSaid : Prop := Claim7.holds Tryz.pinned (.plain (OpenSpec.upto workBeginsSpec)) workBeginsUptoCard

/-- THE SECOND FORM's CARD OF 'annuletlaw34.WorkEnds'. -/
def workEndsUptoCard : Claim7 := { stood := { row := workEndsUptoRow, standIns := [], harness := (true, "0dee92e9a5b8fae4ebc174d5ff21325cb42968737336fefe4f8422179dce6d0c"), looks := false }, kinds := [], alts := [], laidByText := true, laidKinds := [.data, .pinned], laidTests := true, laidLooks := .later }
def WorkEndsUptoCardSaid : Prop := Claim7.holds Tryz.pinned (.plain (OpenSpec.upto workEndsSpec)) workEndsUptoCard

/-- THE SECOND FORM's CARD OF 'annuletlaw33.ServeRight'. -/
def serveRightUptoCard : Claim7 := { stood := { row := serveRightUptoRow, standIns := [], harness := (true, "0dee92e9a5b8fae4ebc174d5ff21325cb42968737336fefe4f8422179dce6d0c"), looks := false }, kinds := [], alts := [], laidByText := true, laidKinds := [.data, .pinned], laidTests := true, laidLooks := .later }
def ServeRightUptoCardSaid : Prop := Claim7.holds Tryz.pinned (.plain (OpenSpec.upto serveRightSpec)) serveRightUptoCard

/-- THE SECOND FORM's CARD OF 'annuletlaw34.WorkGoes'. -/
def workGoesUptoCard : Claim7 := { stood := { row := workGoesUptoRow, standIns := [], harness := (true, "0dee92e9a5b8fae4ebc174d5ff21325cb42968737336fefe4f8422179dce6d0c"), looks := false }, kinds := [], alts := [], laidByText := true, laidKinds := [.data, .pinned], laidTests := true, laidLooks := .later }
def WorkGoesUptoCardSaid : Prop := Claim7.holds Tryz.pinned (.plain (OpenSpec.upto workGoesSpec)) workGoesUptoCard
end Rows
end Go.Proofs.YtjmmobicnfojeaaGreatDoor
