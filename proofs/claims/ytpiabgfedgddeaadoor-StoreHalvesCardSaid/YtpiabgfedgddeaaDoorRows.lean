/-
  NARROWER THAN 'FOR EVERY INPUT', by the rows' own cells (each row's printed sentence says how): StorePuts: laid · StoreParts: laid · StoreStays: laid · StoreHalves: laid · FixedEncs: laid · FixedDecs: laid · FixedBack: laid.
  DERIVED. THE GIVEN ROWS OF THIS SEAT. 7 by the template 'for every input the law returns true; each argument reads behind the call as it read before'; 0 by the template 'total and deterministic' (their statements: YtpiabgfedgddeaaDoorTotals.lean).
  GIVEN WITH THE SEED: the statements are not yours to turn. If you find one false, say at which input.
  Laid BY PROGRAM, IN A SANDBOX (cutbox-rows.mjs): the forced cells as the released guide's own fill.sh prints them over the translation cbfdd36498ad83f7… (all of the seat's roots in one cut). By AI agents, Wed Nov 11 2026. No macro, syntax, notation, axiom, sorry.
-/
import Derived.Test.YtpiabgfedgddeaaDoorChecked
import GoSem.PinnedTables
import GoSem.Claim
import GoSem.ClaimJoined
import GoSem.ClaimMapViews
import Derived.JoinedTies
import Derived.KernelRfl
namespace Go.Proofs.YtpiabgfedgddeaaDoor
/- THE CELL 'sum', in the pinned program and in every row, IS THE sha256 OF THE DUMP (.gsa) THAT YtpiabgfedgddeaaDoorProg.lean LOADS. Nothing in Lean hashes anything: it is a label: what it is worth is what the hold of that sum in a sandbox is worth. -/
noncomputable def Tryd.pinned : Pinned := { name := "ytpiabgfedgddeaadoor", sum := "cbfdd36498ad83f7fe84e544612cfde826c103ae59913ac25882898f8d059478", checked := Tryd.checked }
namespace Rows
def none {H : Type} : Left H := { results := [], args := [] }

/- WHAT THE LISTED PACKAGE-LEVEL VARIABLES READ AS WHEN THE CALL BEGINS. Each datum BY PROGRAM (the guide's laid-datum.mjs) off the statement by which the dump's own 'gosem.cut.vars' lays the variable. In a bare row this is a premise. The card (YtpiabgfedgddeaaDoorCards.lean) ties it to the program's text. -/
def laid_unicode_utf8_acceptRanges {H : Type} : DataW H := .agg [.agg [.lit (.int .u8 128), .lit (.int .u8 191)], .agg [.lit (.int .u8 160), .lit (.int .u8 191)], .agg [.lit (.int .u8 128), .lit (.int .u8 159)], .agg [.lit (.int .u8 144), .lit (.int .u8 191)], .agg [.lit (.int .u8 128), .lit (.int .u8 143)], .agg [.lit (.int .u8 0), .lit (.int .u8 0)], .agg [.lit (.int .u8 0), .lit (.int .u8 0)], .agg [.lit (.int .u8 0), .lit (.int .u8 0)], .agg [.lit (.int .u8 0), .lit (.int .u8 0)], .agg [.lit (.int .u8 0), .lit (.int .u8 0)], .agg [.lit (.int .u8 0), .lit (.int .u8 0)], .agg [.lit (.int .u8 0), .lit (.int .u8 0)], .agg [.lit (.int .u8 0), .lit (.int .u8 0)], .agg [.lit (.int .u8 0), .lit (.int .u8 0)], .agg [.lit (.int .u8 0), .lit (.int .u8 0)], .agg [.lit (.int .u8 0), .lit (.int .u8 0)]]
/-- One of Go's own tables, pinned by name: the form's constant. -/
def laid_unicode_utf8_first : DataW Unit := Go.Pinned.utf8First

/-- 'annuletlaw29.StorePuts': WHATEVER THE INPUT: true; the input reads as it did. -/
def storePutsSpec : ChangeSpec := { name := "storePuts", fn := fun _ => fun
  | [d1, d2, d3] => { results := [.lit (.bool true)], args := [d1, d2, d3] }
  | _ => none }
def storePutsRow : OpenClaim := { program := "ytpiabgfedgddeaadoor", sum := "cbfdd36498ad83f7fe84e544612cfde826c103ae59913ac25882898f8d059478", func := "annulet/annuletlaw29.StorePuts", spec := "storePuts", inPlace := ["slices.overlaps[annulet/api.Pair]"], unfollowed := true, recurses := true, named := ["unicode/utf8.first", "unicode/utf8.acceptRanges"], apart := false, laid := [("unicode/utf8.acceptRanges", laid_unicode_utf8_acceptRanges), ("unicode/utf8.first", laid_unicode_utf8_first)] }
def StorePutsSaid : Prop := storePutsRow.holds Tryd.pinned (OpenSpec.ofChange storePutsSpec)

/-- ITS FALSE NEIGHBOUR: 'it returns false'. Refute it at one input. -/
def storePutsWrong : ChangeSpec := { name := "storePuts", fn := fun _ => fun
  | [d1, d2, d3] => { results := [.lit (.bool false)], args := [d1, d2, d3] }
  | _ => none }
def StorePutsWrongFalsely : Prop := storePutsRow.holds Tryd.pinned (OpenSpec.ofChange storePutsWrong)

/-- 'annuletlaw29.StoreParts': WHATEVER THE INPUT: true; the input reads as it did. -/
def storePartsSpec : ChangeSpec := { name := "storeParts", fn := fun _ => fun
  | [d1, d2, d3, d4] => { results := [.lit (.bool true)], args := [d1, d2, d3, d4] }
  | _ => none }
def storePartsRow : OpenClaim := { program := "ytpiabgfedgddeaadoor", sum := "cbfdd36498ad83f7fe84e544612cfde826c103ae59913ac25882898f8d059478", func := "annulet/annuletlaw29.StoreParts", spec := "storeParts", inPlace := ["slices.overlaps[annulet/api.Pair]"], unfollowed := true, recurses := true, named := ["unicode/utf8.first", "unicode/utf8.acceptRanges"], apart := false, laid := [("unicode/utf8.acceptRanges", laid_unicode_utf8_acceptRanges), ("unicode/utf8.first", laid_unicode_utf8_first)] }
def StorePartsSaid : Prop := storePartsRow.holds Tryd.pinned (OpenSpec.ofChange storePartsSpec)

/-- ITS FALSE NEIGHBOUR: 'it returns false'. Refute it at one input. -/
def storePartsWrong : ChangeSpec := { name := "storeParts", fn := fun _ => fun
  | [d1, d2, d3, d4] => { results := [.lit (.bool false)], args := [d1, d2, d3, d4] }
  | _ => none }
def StorePartsWrongFalsely : Prop := storePartsRow.holds Tryd.pinned (OpenSpec.ofChange storePartsWrong)

/-- 'annuletlaw29.StoreStays': WHATEVER THE INPUT: true; the input reads as it did. -/
def storeStaysSpec : ChangeSpec := { name := "storeStays", fn := fun _ => fun
  | [d1, d2, d3, d4, d5] => { results := [.lit (.bool true)], args := [d1, d2, d3, d4, d5] }
  | _ => none }
def storeStaysRow : OpenClaim := { program := "ytpiabgfedgddeaadoor", sum := "cbfdd36498ad83f7fe84e544612cfde826c103ae59913ac25882898f8d059478", func := "annulet/annuletlaw29.StoreStays", spec := "storeStays", inPlace := ["slices.overlaps[annulet/api.Pair]"], unfollowed := true, recurses := true, named := ["unicode/utf8.first", "unicode/utf8.acceptRanges"], apart := false, laid := [("unicode/utf8.acceptRanges", laid_unicode_utf8_acceptRanges), ("unicode/utf8.first", laid_unicode_utf8_first)] }
def StoreStaysSaid : Prop := storeStaysRow.holds Tryd.pinned (OpenSpec.ofChange storeStaysSpec)

/-- ITS FALSE NEIGHBOUR: 'it returns false'. Refute it at one input. -/
def storeStaysWrong : ChangeSpec := { name := "storeStays", fn := fun _ => fun
  | [d1, d2, d3, d4, d5] => { results := [.lit (.bool false)], args := [d1, d2, d3, d4, d5] }
  | _ => none }
def StoreStaysWrongFalsely : Prop := storeStaysRow.holds Tryd.pinned (OpenSpec.ofChange storeStaysWrong)

/-- 'annuletlaw29.StoreHalves': WHATEVER THE INPUT: true; the input reads as it did. -/
def storeHalvesSpec : ChangeSpec := { name := "storeHalves", fn := fun _ => fun
  | [d1, d2, d3] => { results := [.lit (.bool true)], args := [d1, d2, d3] }
  | _ => none }
def storeHalvesRow : OpenClaim := { program := "ytpiabgfedgddeaadoor", sum := "cbfdd36498ad83f7fe84e544612cfde826c103ae59913ac25882898f8d059478", func := "annulet/annuletlaw29.StoreHalves", spec := "storeHalves", inPlace := ["slices.overlaps[annulet/api.Pair]"], unfollowed := true, recurses := true, named := ["unicode/utf8.first", "unicode/utf8.acceptRanges"], apart := false, laid := [("unicode/utf8.acceptRanges", laid_unicode_utf8_acceptRanges), ("unicode/utf8.first", laid_unicode_utf8_first)] }
def StoreHalvesSaid : Prop := storeHalvesRow.holds Tryd.pinned (OpenSpec.ofChange storeHalvesSpec)

/-- ITS FALSE NEIGHBOUR: 'it returns false'. Refute it at one input. -/
def storeHalvesWrong : ChangeSpec := { name := "storeHalves", fn := fun _ => fun
  | [d1, d2, d3] => { results := [.lit (.bool false)], args := [d1, d2, d3] }
  | _ => none }
def StoreHalvesWrongFalsely : Prop := storeHalvesRow.holds Tryd.pinned (OpenSpec.ofChange storeHalvesWrong)

/-- 'annuletlaw09.FixedEncs': WHATEVER THE INPUT: true; the input reads as it did. -/
def fixedEncsSpec : ChangeSpec := { name := "fixedEncs", fn := fun _ => fun
  | [d] => { results := [.lit (.bool true)], args := [d] }
  | _ => none }
def fixedEncsRow : OpenClaim := { program := "ytpiabgfedgddeaadoor", sum := "cbfdd36498ad83f7fe84e544612cfde826c103ae59913ac25882898f8d059478", func := "annulet/annuletlaw09.FixedEncs", spec := "fixedEncs", unfollowed := true, recurses := true, named := ["unicode/utf8.first", "unicode/utf8.acceptRanges"], apart := false, laid := [("unicode/utf8.acceptRanges", laid_unicode_utf8_acceptRanges), ("unicode/utf8.first", laid_unicode_utf8_first)] }
def FixedEncsSaid : Prop := fixedEncsRow.holds Tryd.pinned (OpenSpec.ofChange fixedEncsSpec)

/-- ITS FALSE NEIGHBOUR: 'it returns false'. Refute it at one input. -/
def fixedEncsWrong : ChangeSpec := { name := "fixedEncs", fn := fun _ => fun
  | [d] => { results := [.lit (.bool false)], args := [d] }
  | _ => none }
def FixedEncsWrongFalsely : Prop := fixedEncsRow.holds Tryd.pinned (OpenSpec.ofChange fixedEncsWrong)

/-- 'annuletlaw09.FixedDecs': WHATEVER THE INPUT: true; the input reads as it did. -/
def fixedDecsSpec : ChangeSpec := { name := "fixedDecs", fn := fun _ => fun
  | [d] => { results := [.lit (.bool true)], args := [d] }
  | _ => none }
def fixedDecsRow : OpenClaim := { program := "ytpiabgfedgddeaadoor", sum := "cbfdd36498ad83f7fe84e544612cfde826c103ae59913ac25882898f8d059478", func := "annulet/annuletlaw09.FixedDecs", spec := "fixedDecs", unfollowed := true, recurses := true, named := ["unicode/utf8.first", "unicode/utf8.acceptRanges"], apart := false, laid := [("unicode/utf8.acceptRanges", laid_unicode_utf8_acceptRanges), ("unicode/utf8.first", laid_unicode_utf8_first)] }
def FixedDecsSaid : Prop := fixedDecsRow.holds Tryd.pinned (OpenSpec.ofChange fixedDecsSpec)

/-- ITS FALSE NEIGHBOUR: 'it returns false'. Refute it at one input. -/
def fixedDecsWrong : ChangeSpec := { name := "fixedDecs", fn := fun _ => fun
  | [d] => { results := [.lit (.bool false)], args := [d] }
  | _ => none }
def FixedDecsWrongFalsely : Prop := fixedDecsRow.holds Tryd.pinned (OpenSpec.ofChange fixedDecsWrong)

/-- 'annuletlaw09.FixedBack': WHATEVER THE INPUT: true; the input reads as it did. -/
def fixedBackSpec : ChangeSpec := { name := "fixedBack", fn := fun _ => fun
  | [d1, d2] => { results := [.lit (.bool true)], args := [d1, d2] }
  | _ => none }
def fixedBackRow : OpenClaim := { program := "ytpiabgfedgddeaadoor", sum := "cbfdd36498ad83f7fe84e544612cfde826c103ae59913ac25882898f8d059478", func := "annulet/annuletlaw09.FixedBack", spec := "fixedBack", unfollowed := true, recurses := true, named := ["unicode/utf8.first", "unicode/utf8.acceptRanges"], apart := false, laid := [("unicode/utf8.acceptRanges", laid_unicode_utf8_acceptRanges), ("unicode/utf8.first", laid_unicode_utf8_first)] }
def FixedBackSaid : Prop := fixedBackRow.holds Tryd.pinned (OpenSpec.ofChange fixedBackSpec)

/-- ITS FALSE NEIGHBOUR: 'it returns false'. Refute it at one input. -/
def fixedBackWrong : ChangeSpec := { name := "fixedBack", fn := fun _ => fun
  | [d1, d2] => { results := [.lit (.bool false)], args := [d1, d2] }
  | _ => none }
def FixedBackWrongFalsely : Prop := fixedBackRow.holds Tryd.pinned (OpenSpec.ofChange fixedBackWrong)

/- THE SECOND FORM. 'bulk': how many values and letters a reading holds, each counted each time it is reached (what is shared counts as often as it is met; a slice's spare places count too). A statement '..UptoSaid' is the law's where the arguments, and the package variables that the reading takes, are together of bulk at most 1048576: NARROWER than '..Said'. Prove '..Said' where nothing that the law and all that it calls make is longer than what came in: it says more and counts as full. Else prove '..UptoSaid'. A law counts once. -/
mutual
def uptoBulk {H : Type} : DataW H → Nat
  | .lit (.string bytes) => bytes.length + 1
  | .lit _ => 1
  | .nil => 1
  | .ptr d => uptoBulk d + 1
  | .slice elems spare => uptoBulkAll elems + uptoBulkAll spare + 1
  | .agg parts => uptoBulkAll parts + 1
  | .iface _ d => uptoBulk d + 1
  | .map entries => uptoBulkEntries entries + 1
  | .held _ => 1
def uptoBulkAll {H : Type} : List (DataW H) → Nat
  | [] => 0
  | d :: r => uptoBulk d + uptoBulkAll r
def uptoBulkEntries {H : Type} : List (Lit × DataW H) → Nat
  | [] => 0
  | x :: r => uptoBulkEntry x + uptoBulkEntries r
def uptoBulkEntry {H : Type} : Lit × DataW H → Nat
  | (.string bytes, d) => bytes.length + uptoBulk d + 1
  | (_, d) => uptoBulk d + 1
 end
def uptoSmall : (H : Type) → List (DataW H) → Bool := fun _ ds => decide (uptoBulkAll ds ≤ 1048576)
def OpenSpec.upto (s : _root_.Go.ChangeSpec) : _root_.Go.OpenSpec := { _root_.Go.OpenSpec.ofChange s with cond := some uptoSmall }

/-- 'annuletlaw29.StorePuts', WHERE WHAT IT READS IS OF BULK AT MOST 1048576: true; the input reads as it did. -/
def storePutsUptoRow : OpenClaim := { program := "ytpiabgfedgddeaadoor", sum := "cbfdd36498ad83f7fe84e544612cfde826c103ae59913ac25882898f8d059478", func := "annulet/annuletlaw29.StorePuts", spec := "storePuts", inPlace := ["slices.overlaps[annulet/api.Pair]"], unfollowed := true, recurses := true, named := ["unicode/utf8.first", "unicode/utf8.acceptRanges"], apart := false, laid := [("unicode/utf8.acceptRanges", laid_unicode_utf8_acceptRanges), ("unicode/utf8.first", laid_unicode_utf8_first)], narrowed := true }
def StorePutsUptoSaid : Prop := storePutsUptoRow.holds Tryd.pinned (OpenSpec.upto storePutsSpec)

/-- 'annuletlaw29.StoreParts', WHERE WHAT IT READS IS OF BULK AT MOST 1048576: true; the input reads as it did. -/
def storePartsUptoRow : OpenClaim := { program := "ytpiabgfedgddeaadoor", sum := "cbfdd36498ad83f7fe84e544612cfde826c103ae59913ac25882898f8d059478", func := "annulet/annuletlaw29.StoreParts", spec := "storeParts", inPlace := ["slices.overlaps[annulet/api.Pair]"], unfollowed := true, recurses := true, named := ["unicode/utf8.first", "unicode/utf8.acceptRanges"], apart := false, laid := [("unicode/utf8.acceptRanges", laid_unicode_utf8_acceptRanges), ("unicode/utf8.first", laid_unicode_utf8_first)], narrowed := true }
def StorePartsUptoSaid : Prop := storePartsUptoRow.holds Tryd.pinned (OpenSpec.upto storePartsSpec)

/-- 'annuletlaw29.StoreStays', WHERE WHAT IT READS IS OF BULK AT MOST 1048576: true; the input reads as it did. -/
def storeStaysUptoRow : OpenClaim := { program := "ytpiabgfedgddeaadoor", sum := "cbfdd36498ad83f7fe84e544612cfde826c103ae59913ac25882898f8d059478", func := "annulet/annuletlaw29.StoreStays", spec := "storeStays", inPlace := ["slices.overlaps[annulet/api.Pair]"], unfollowed := true, recurses := true, named := ["unicode/utf8.first", "unicode/utf8.acceptRanges"], apart := false, laid := [("unicode/utf8.acceptRanges", laid_unicode_utf8_acceptRanges), ("unicode/utf8.first", laid_unicode_utf8_first)], narrowed := true }
def StoreStaysUptoSaid : Prop := storeStaysUptoRow.holds Tryd.pinned (OpenSpec.upto storeStaysSpec)

/-- 'annuletlaw29.StoreHalves', WHERE WHAT IT READS IS OF BULK AT MOST 1048576: true; the input reads as it did. -/
def storeHalvesUptoRow : OpenClaim := { program := "ytpiabgfedgddeaadoor", sum := "cbfdd36498ad83f7fe84e544612cfde826c103ae59913ac25882898f8d059478", func := "annulet/annuletlaw29.StoreHalves", spec := "storeHalves", inPlace := ["slices.overlaps[annulet/api.Pair]"], unfollowed := true, recurses := true, named := ["unicode/utf8.first", "unicode/utf8.acceptRanges"], apart := false, laid := [("unicode/utf8.acceptRanges", laid_unicode_utf8_acceptRanges), ("unicode/utf8.first", laid_unicode_utf8_first)], narrowed := true }
def StoreHalvesUptoSaid : Prop := storeHalvesUptoRow.holds Tryd.pinned (OpenSpec.upto storeHalvesSpec)

/-- 'annuletlaw09.FixedEncs', WHERE WHAT IT READS IS OF BULK AT MOST 1048576: true; the input reads as it did. -/
def fixedEncsUptoRow : OpenClaim := { program := "ytpiabgfedgddeaadoor", sum := "cbfdd36498ad83f7fe84e544612cfde826c103ae59913ac25882898f8d059478", func := "annulet/annuletlaw09.FixedEncs", spec := "fixedEncs", unfollowed := true, recurses := true, named := ["unicode/utf8.first", "unicode/utf8.acceptRanges"], apart := false, laid := [("unicode/utf8.acceptRanges", laid_unicode_utf8_acceptRanges), ("unicode/utf8.first", laid_unicode_utf8_first)], narrowed := true }
def FixedEncsUptoSaid : Prop := fixedEncsUptoRow.holds Tryd.pinned (OpenSpec.upto fixedEncsSpec)

/-- 'annuletlaw09.FixedDecs', WHERE WHAT IT READS IS OF BULK AT MOST 1048576: true; the input reads as it did. -/
def fixedDecsUptoRow : OpenClaim := { program := "ytpiabgfedgddeaadoor", sum := "cbfdd36498ad83f7fe84e544612cfde826c103ae59913ac25882898f8d059478", func := "annulet/annuletlaw09.FixedDecs", spec := "fixedDecs", unfollowed := true, recurses := true, named := ["unicode/utf8.first", "unicode/utf8.acceptRanges"], apart := false, laid := [("unicode/utf8.acceptRanges", laid_unicode_utf8_acceptRanges), ("unicode/utf8.first", laid_unicode_utf8_first)], narrowed := true }
def FixedDecsUptoSaid : Prop := fixedDecsUptoRow.holds Tryd.pinned (OpenSpec.upto fixedDecsSpec)

/-- 'annuletlaw09.FixedBack', WHERE WHAT IT READS IS OF BULK AT MOST 1048576: true; the input reads as it did. -/
def fixedBackUptoRow : OpenClaim := { program := "ytpiabgfedgddeaadoor", sum := "cbfdd36498ad83f7fe84e544612cfde826c103ae59913ac25882898f8d059478", func := "annulet/annuletlaw09.FixedBack", spec := "fixedBack", unfollowed := true, recurses := true, named := ["unicode/utf8.first", "unicode/utf8.acceptRanges"], apart := false, laid := [("unicode/utf8.acceptRanges", laid_unicode_utf8_acceptRanges), ("unicode/utf8.first", laid_unicode_utf8_first)], narrowed := true }
def FixedBackUptoSaid : Prop := fixedBackUptoRow.holds Tryd.pinned (OpenSpec.upto fixedBackSpec)

end Rows
end Go.Proofs.YtpiabgfedgddeaaDoor
