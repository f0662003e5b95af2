/-
  NARROWER THAN 'FOR EVERY INPUT', by the rows' own cells (each row's printed sentence says how): TreeMakes: loops.
  DERIVED. THE GIVEN ROWS OF THIS SEAT. 4 by the template 'for every input the law returns true; each argument reads behind the call as it read before'; 0 by the template 'total and deterministic' (their statements: YtcnohiofldkcoabTotals.lean).
  GIVEN WITH THE SEED: the statements are not yours to turn. If you find one false, say at which input.
  Laid BY PROGRAM, IN A SANDBOX (cutbox-rows.mjs): the forced cells as the released guide's own fill.sh prints them over the translation 785841d27967d6f8… (all of the seat's roots in one cut). By AI agents, Wed Nov 11 2026. No macro, syntax, notation, axiom, sorry.
-/
import Derived.Test.YtcnohiofldkcoabChecked
import GoSem.Claim
import GoSem.ClaimJoined
import GoSem.ClaimMapViews
import Derived.JoinedTies
import Derived.KernelRfl
namespace Go.Proofs.Ytcnohiofldkcoab
/- THE CELL 'sum', in the pinned program and in every row, IS THE sha256 OF THE DUMP (.gsa) THAT YtcnohiofldkcoabProg.lean LOADS. Nothing in Lean hashes anything: it is a label: what it is worth is what the hold of that sum in a sandbox is worth. -/
noncomputable def Try.pinned : Pinned := { name := "ytcnohiofldkcoab", sum := "785841d27967d6f88bd3f5bd3487d66c32cca8a02eccac071617e1089414d561", checked := Try.checked }
namespace Rows
def none {H : Type} : Left H := { results := [], args := [] }

/-- 'annuletlaw27.PeersMoves': WHATEVER THE INPUT: true; the input reads as it did. -/
def peersMovesSpec : ChangeSpec := { name := "peersMoves", fn := fun _ => fun
  | [d1, d2, d3] => { results := [.lit (.bool true)], args := [d1, d2, d3] }
  | _ => none }
def peersMovesRow : OpenClaim := { program := "ytcnohiofldkcoab", sum := "785841d27967d6f88bd3f5bd3487d66c32cca8a02eccac071617e1089414d561", func := "annulet/annuletlaw27.PeersMoves", spec := "peersMoves", inPlace := ["slices.overlaps[annulet/api.Entry]"], unfollowed := true, recurses := true, apart := false }
def PeersMovesSaid : Prop := peersMovesRow.holds Try.pinned (OpenSpec.ofChange peersMovesSpec)

/-- ITS FALSE NEIGHBOUR: 'it returns false'. Refute it at one input. -/
def peersMovesWrong : ChangeSpec := { name := "peersMoves", fn := fun _ => fun
  | [d1, d2, d3] => { results := [.lit (.bool false)], args := [d1, d2, d3] }
  | _ => none }
def PeersMovesWrongFalsely : Prop := peersMovesRow.holds Try.pinned (OpenSpec.ofChange peersMovesWrong)

/-- 'annuletlaw27.PeersTells': WHATEVER THE INPUT: true; the input reads as it did. -/
def peersTellsSpec : ChangeSpec := { name := "peersTells", fn := fun _ => fun
  | [d1, d2, d3, d4, d5] => { results := [.lit (.bool true)], args := [d1, d2, d3, d4, d5] }
  | _ => none }
def peersTellsRow : OpenClaim := { program := "ytcnohiofldkcoab", sum := "785841d27967d6f88bd3f5bd3487d66c32cca8a02eccac071617e1089414d561", func := "annulet/annuletlaw27.PeersTells", spec := "peersTells", inPlace := ["slices.overlaps[annulet/api.Entry]"], unfollowed := true, recurses := true, apart := false }
def PeersTellsSaid : Prop := peersTellsRow.holds Try.pinned (OpenSpec.ofChange peersTellsSpec)

/-- ITS FALSE NEIGHBOUR: 'it returns false'. Refute it at one input. -/
def peersTellsWrong : ChangeSpec := { name := "peersTells", fn := fun _ => fun
  | [d1, d2, d3, d4, d5] => { results := [.lit (.bool false)], args := [d1, d2, d3, d4, d5] }
  | _ => none }
def PeersTellsWrongFalsely : Prop := peersTellsRow.holds Try.pinned (OpenSpec.ofChange peersTellsWrong)

/-- 'annuletlaw27.PeersStay': WHATEVER THE INPUT: true; the input reads as it did. -/
def peersStaySpec : ChangeSpec := { name := "peersStay", fn := fun _ => fun
  | [d1, d2, d3] => { results := [.lit (.bool true)], args := [d1, d2, d3] }
  | _ => none }
def peersStayRow : OpenClaim := { program := "ytcnohiofldkcoab", sum := "785841d27967d6f88bd3f5bd3487d66c32cca8a02eccac071617e1089414d561", func := "annulet/annuletlaw27.PeersStay", spec := "peersStay", inPlace := ["slices.overlaps[annulet/api.Entry]"], unfollowed := true, recurses := true, apart := false }
def PeersStaySaid : Prop := peersStayRow.holds Try.pinned (OpenSpec.ofChange peersStaySpec)

/-- ITS FALSE NEIGHBOUR: 'it returns false'. Refute it at one input. -/
def peersStayWrong : ChangeSpec := { name := "peersStay", fn := fun _ => fun
  | [d1, d2, d3] => { results := [.lit (.bool false)], args := [d1, d2, d3] }
  | _ => none }
def PeersStayWrongFalsely : Prop := peersStayRow.holds Try.pinned (OpenSpec.ofChange peersStayWrong)

/-- 'annuletlaw11.TreeMakes': WHATEVER THE INPUT: true; the input reads as it did. -/
def treeMakesSpec : ChangeSpec := { name := "treeMakes", fn := fun _ => fun
  | [d1, d2, d3, d4] => { results := [.lit (.bool true)], args := [d1, d2, d3, d4] }
  | _ => none }
def treeMakesRow : OpenClaim := { program := "ytcnohiofldkcoab", sum := "785841d27967d6f88bd3f5bd3487d66c32cca8a02eccac071617e1089414d561", func := "annulet/annuletlaw11.TreeMakes", spec := "treeMakes", inPlace := ["slices.overlaps[string]", "slices.overlaps[annulet/api.Tree]"], unfollowed := true, recurses := true, loops := true, apart := false }
def TreeMakesSaid : Prop := treeMakesRow.holds Try.pinned (OpenSpec.ofChange treeMakesSpec)

/-- ITS FALSE NEIGHBOUR: 'it returns false'. Refute it at one input. -/
def treeMakesWrong : ChangeSpec := { name := "treeMakes", fn := fun _ => fun
  | [d1, d2, d3, d4] => { results := [.lit (.bool false)], args := [d1, d2, d3, d4] }
  | _ => none }
def TreeMakesWrongFalsely : Prop := treeMakesRow.holds Try.pinned (OpenSpec.ofChange treeMakesWrong)

/- THE SECOND FORM. 'bulk': how many values and letters a reading holds, each counted each time it is reached (what is shared counts as often as it is met; a slice's spare places count too). A statement '..UptoSaid' is the law's where the arguments, and the package variables that the reading takes, are together of bulk at most 1048576: NARROWER than '..Said'. Prove '..Said' where nothing that the law and all that it calls make is longer than what came in: it says more and counts as full. Else prove '..UptoSaid'. A law counts once. -/
mutual
def uptoBulk {H : Type} : DataW H → Nat
  | .lit (.string bytes) => bytes.length + 1
  | .lit _ => 1
  | .nil => 1
  | .ptr d => uptoBulk d + 1
  | .slice elems spare => uptoBulkAll elems + uptoBulkAll spare + 1
  | .agg parts => uptoBulkAll parts + 1
  | .iface _ d => uptoBulk d + 1
  | .map entries => uptoBulkEntries entries + 1
  | .held _ => 1
def uptoBulkAll {H : Type} : List (DataW H) → Nat
  | [] => 0
  | d :: r => uptoBulk d + uptoBulkAll r
def uptoBulkEntries {H : Type} : List (Lit × DataW H) → Nat
  | [] => 0
  | x :: r => uptoBulkEntry x + uptoBulkEntries r
def uptoBulkEntry {H : Type} : Lit × DataW H → Nat
  | (.string bytes, d) => bytes.length + uptoBulk d + 1
  | (_, d) => uptoBulk d + 1
 end
def uptoSmall : (H : Type) → List (DataW H) → Bool := fun _ ds => decide (uptoBulkAll ds ≤ 1048576)
def OpenSpec.upto (s : _root_.Go.ChangeSpec) : _root_.Go.OpenSpec := { _root_.Go.OpenSpec.ofChange s with cond := some uptoSmall }

/-- 'annuletlaw27.PeersMoves', WHERE WHAT IT READS IS OF BULK AT MOST 1048576: true; the input reads as it did. -/
def peersMovesUptoRow : OpenClaim := { program := "ytcnohiofldkcoab", sum := "785841d27967d6f88bd3f5bd3487d66c32cca8a02eccac071617e1089414d561", func := "annulet/annuletlaw27.PeersMoves", spec := "peersMoves", inPlace := ["slices.overlaps[annulet/api.Entry]"], unfollowed := true, recurses := true, apart := false, narrowed := true }
def PeersMovesUptoSaid : Prop := peersMovesUptoRow.holds Try.pinned (OpenSpec.upto peersMovesSpec)

/-- 'annuletlaw27.PeersTells', WHERE WHAT IT READS IS OF BULK AT MOST 1048576: true; the input reads as it did. -/
def peersTellsUptoRow : OpenClaim := { program := "ytcnohiofldkcoab", sum := "785841d27967d6f88bd3f5bd3487d66c32cca8a02eccac071617e1089414d561", func := "annulet/annuletlaw27.PeersTells", spec := "peersTells", inPlace := ["slices.overlaps[annulet/api.Entry]"], unfollowed := true, recurses := true, apart := false, narrowed := true }
def PeersTellsUptoSaid : Prop := peersTellsUptoRow.holds Try.pinned (OpenSpec.upto peersTellsSpec)

/-- 'annuletlaw27.PeersStay', WHERE WHAT IT READS IS OF BULK AT MOST 1048576: true; the input reads as it did. -/
def peersStayUptoRow : OpenClaim := { program := "ytcnohiofldkcoab", sum := "785841d27967d6f88bd3f5bd3487d66c32cca8a02eccac071617e1089414d561", func := "annulet/annuletlaw27.PeersStay", spec := "peersStay", inPlace := ["slices.overlaps[annulet/api.Entry]"], unfollowed := true, recurses := true, apart := false, narrowed := true }
def PeersStayUptoSaid : Prop := peersStayUptoRow.holds Try.pinned (OpenSpec.upto peersStaySpec)

/-- 'annuletlaw11.TreeMakes', WHERE WHAT IT READS IS OF BULK AT MOST 1048576: true; the input reads as it did. -/
def treeMakesUptoRow : OpenClaim := { program := "ytcnohiofldkcoab", sum := "785841d27967d6f88bd3f5bd3487d66c32cca8a02eccac071617e1089414d561", func := "annulet/annuletlaw11.TreeMakes", spec := "treeMakes", inPlace := ["slices.overlaps[string]", "slices.overlaps[annulet/api.Tree]"], unfollowed := true, recurses := true, loops := true, apart := false, narrowed := true }
def TreeMakesUptoSaid : Prop := treeMakesUptoRow.holds Try.pinned (OpenSpec.upto treeMakesSpec)

end Rows
end Go.Proofs.Ytcnohiofldkcoab
