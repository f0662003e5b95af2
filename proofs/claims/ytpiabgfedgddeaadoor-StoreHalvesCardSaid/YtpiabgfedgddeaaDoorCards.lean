/-
  DERIVED. GIVEN WITH THE SEED: THE CARDS: each row of YtpiabgfedgddeaaDoorRows.lean that lists a variable, with what it lists TIED to the program's text (the seventh form; the later family's looks); each row that meets fmt, with fmt's text TOLD by the authors' own Lean function (tested against real Go, not proved from fmt's source: count such statements apart). THE CARD IS WHAT COUNTS. Prove the row's statement (the work); the ties are given (YtpiabgfedgddeaaDoorTie.lean); close each card by the builder's one call (the guide's Derived/Test/ToyasCard.lean, 'card_holds'). Laid BY PROGRAM, IN A SANDBOX (cutbox-door.mjs). By AI agents, Wed Nov 11 2026. No macro, syntax, notation, axiom, sorry.
-/
import Derived.Test.YtpiabgfedgddeaaDoorRows
import GoSem.ClaimSeven
namespace Go.Proofs.YtpiabgfedgddeaaDoor
namespace Rows

/-- THE TIED CARD OF 'annuletlaw29.StorePuts'. -/
def storePutsCard : Claim7 := { stood := { row := storePutsRow, standIns := [], harness := (true, "8309a6da56ef875d0525e9f5c30be7f3de3275c2b72439703c97a339ec4703c8"), looks := false }, kinds := [], alts := [], laidByText := true, laidKinds := [.data, .pinned], laidTests := true, laidLooks := .later }
def StorePutsCardSaid : Prop := Claim7.holds Tryd.pinned (.plain (OpenSpec.ofChange storePutsSpec)) storePutsCard

/-- THE TIED CARD OF 'annuletlaw29.StoreParts'. -/
def storePartsCard : Claim7 := { stood := { row := storePartsRow, standIns := [], harness := (true, "8309a6da56ef875d0525e9f5c30be7f3de3275c2b72439703c97a339ec4703c8"), looks := false }, kinds := [], alts := [], laidByText := true, laidKinds := [.data, .pinned], laidTests := true, laidLooks := .later }
def StorePartsCardSaid : Prop := Claim7.holds Tryd.pinned (.plain (OpenSpec.ofChange storePartsSpec)) storePartsCard

/-- THE TIED CARD OF 'annuletlaw29.StoreStays'. -/
def storeStaysCard : Claim7 := { stood := { row := storeStaysRow, standIns := [], harness := (true, "8309a6da56ef875d0525e9f5c30be7f3de3275c2b72439703c97a339ec4703c8"), looks := false }, kinds := [], alts := [], laidByText := true, laidKinds := [.data, .pinned], laidTests := true, laidLooks := .later }
def StoreStaysCardSaid : Prop := Claim7.holds Tryd.pinned (.plain (OpenSpec.ofChange storeStaysSpec)) storeStaysCard

/-- THE TIED CARD OF 'annuletlaw29.StoreHalves'. -/
def storeHalvesCard : Claim7 := { stood := { row := storeHalvesRow, standIns := [], harness := (true, "8309a6da56ef875d0525e9f5c30be7f3de3275c2b72439703c97a339ec4703c8"), looks := false }, kinds := [], alts := [], laidByText := true, laidKinds := [.data, .pinned], laidTests := true, laidLooks := .later }
def StoreHalvesCardSaid : Prop := Claim7.holds Tryd.pinned (.plain (OpenSpec.ofChange storeHalvesSpec)) storeHalvesCard

/-- THE TIED CARD OF 'annuletlaw09.FixedEncs'. -/
def fixedEncsCard : Claim7 := { stood := { row := fixedEncsRow, standIns := [], harness := (true, "8309a6da56ef875d0525e9f5c30be7f3de3275c2b72439703c97a339ec4703c8"), looks := false }, kinds := [], alts := [], laidByText := true, laidKinds := [.data, .pinned], laidTests := true, laidLooks := .later }
def FixedEncsCardSaid : Prop := Claim7.holds Tryd.pinned (.plain (OpenSpec.ofChange fixedEncsSpec)) fixedEncsCard

/-- THE TIED CARD OF 'annuletlaw09.FixedDecs'. -/
def fixedDecsCard : Claim7 := { stood := { row := fixedDecsRow, standIns := [], harness := (true, "8309a6da56ef875d0525e9f5c30be7f3de3275c2b72439703c97a339ec4703c8"), looks := false }, kinds := [], alts := [], laidByText := true, laidKinds := [.data, .pinned], laidTests := true, laidLooks := .later }
def FixedDecsCardSaid : Prop := Claim7.holds Tryd.pinned (.plain (OpenSpec.ofChange fixedDecsSpec)) fixedDecsCard

/-- THE TIED CARD OF 'annuletlaw09.FixedBack'. -/
def fixedBackCard : Claim7 := { stood := { row := fixedBackRow, standIns := [], harness := (true, "8309a6da56ef875d0525e9f5c30be7f3de3275c2b72439703c97a339ec4703c8"), looks := false }, kinds := [], alts := [], laidByText := true, laidKinds := [.data, .pinned], laidTests := true, laidLooks := .later }
def FixedBackCardSaid : Prop := Claim7.holds Tryd.pinned (.plain (OpenSpec.ofChange fixedBackSpec)) fixedBackCard

/-- THE SECOND FORM's CARD OF 'annuletlaw29.StorePuts'. -/
def storePutsUptoCard : Claim7 := { stood := { row := storePutsUptoRow, standIns := [], harness := (true, "8309a6da56ef875d0525e9f5c30be7f3de3275c2b72439703c97a339ec4703c8"), looks := false }, kinds := [], alts := [], laidByText := true, laidKinds := [.data, .pinned], laidTests := true, laidLooks := .later }
def StorePutsUptoCardSaid : Prop := Claim7.holds Tryd.pinned (.plain (OpenSpec.upto storePutsSpec)) storePutsUptoCard

/-- THE SECOND FORM's CARD OF 'annuletlaw29.StoreParts'. -/
def storePartsUptoCard : Claim7 := { stood := { row := storePartsUptoRow, standIns := [], harness := (true, "8309a6da56ef875d0525e9f5c30be7f3de3275c2b72439703c97a339ec4703c8"), looks := false }, kinds := [], alts := [], laidByText := true, laidKinds := [.data, .pinned], laidTests := true, laidLooks := .later }
def StorePartsUptoCardSaid : Prop := Claim7.holds Tryd.pinned (.plain (OpenSpec.upto storePartsSpec)) storePartsUptoCard

/-- THE SECOND FORM's CARD OF 'annuletlaw29.StoreStays'. -/
def storeStaysUptoCard : Claim7 := { stood := { row := storeStaysUptoRow, standIns := [], harness := (true, "8309a6da56ef875d0525e9f5c30be7f3de3275c2b72439703c97a339ec4703c8"), looks := false }, kinds := [], alts := [], laidByText := true, laidKinds := [.data, .pinned], laidTests := true, laidLooks := .later }
def StoreStaysUptoCardSaid : Prop := Claim7.holds Tryd.pinned (.plain (OpenSpec.upto storeStaysSpec)) storeStaysUptoCard

/-- THE SECOND FORM's CARD OF 'annuletlaw29.StoreHalves'. -/
def storeHalvesUptoCard : Claim7 := { stood := { row := storeHalvesUptoRow, standIns := [], harness := (true, "8309a6da56ef875d0525e9f5c30be7f3de3275c2b72439703c97a339ec4703c8"), looks := false }, kinds := [], alts := [], laidByText := true, laidKinds := [.data, .pinned], laidTests := true, laidLooks := .later }
def StoreHalvesUptoCardSaid : Prop := Claim7.holds Tryd.pinned (.plain (OpenSpec.upto storeHalvesSpec)) storeHalvesUptoCard

/-- THE SECOND FORM's CARD OF 'annuletlaw09.FixedEncs'. -/
def fixedEncsUptoCard : Claim7 := { stood := { row := fixedEncsUptoRow, standIns := [], harness := (true, "8309a6da56ef875d0525e9f5c30be7f3de3275c2b72439703c97a339ec4703c8"), looks := false }, kinds := [], alts := [], laidByText := true, laidKinds := [.data, .pinned], laidTests := true, laidLooks := .later }
def FixedEncsUptoCardSaid : Prop := Claim7.holds Tryd.pinned (.plain (OpenSpec.upto fixedEncsSpec)) fixedEncsUptoCard

/-- THE SECOND FORM's CARD OF 'annuletlaw09.FixedDecs'. -/
def fixedDecsUptoCard : Claim7 := { stood := { row := fixedDecsUptoRow, standIns := [], harness := (true, "8309a6da56ef875d0525e9f5c30be7f3de3275c2b72439703c97a339ec4703c8"), looks := false }, kinds := [], alts := [], laidByText := true, laidKinds := [.data, .pinned], laidTests := true, laidLooks := .later }
def FixedDecsUptoCardSaid : Prop := Claim7.holds Tryd.pinned (.plain (OpenSpec.upto fixedDecsSpec)) fixedDecsUptoCard

/-- THE SECOND FORM's CARD OF 'annuletlaw09.FixedBack'. -/
def fixedBackUptoCard : Claim7 := { stood := { row := fixedBackUptoRow, standIns := [], harness := (true, "8309a6da56ef875d0525e9f5c30be7f3de3275c2b72439703c97a339ec4703c8"), looks := false }, kinds := [], alts := [], laidByText := true, laidKinds := [.data, .pinned], laidTests := true, laidLooks := .later }
def FixedBackUptoCardSaid : Prop := Claim7.holds Tryd.pinned (.plain (OpenSpec.upto fixedBackSpec)) fixedBackUptoCard
end Rows
end Go.Proofs.YtpiabgfedgddeaaDoor
