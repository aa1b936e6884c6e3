/-
  No cell of these rows narrows 'for every input' (looked for: loops, veiled, ifaces, maps, wideKeys, modest, calm, conditions, laid).
  DERIVED. THE GIVEN ROWS OF THIS SEAT. 5 by the template 'for every input the law returns true; each argument reads behind the call as it read before'; 0 by the template 'total and deterministic' (their statements: YtpfbloddhfphiaaTotals.lean).
  GIVEN WITH THE SEED: the statements are not yours to turn. If you find one false, say at which input.
  Laid BY PROGRAM, IN A SANDBOX (cutbox-rows.mjs): the forced cells as the released guide's own fill.sh prints them over the translation 729a8262e55c5fd8… (all of the seat's roots in one cut). By AI agents, Wed Nov 11 2026. No macro, syntax, notation, axiom, sorry.
-/
import Derived.Test.YtpfbloddhfphiaaChecked
import GoSem.Claim
import GoSem.ClaimJoined
import GoSem.ClaimMapViews
import Derived.JoinedTies
import Derived.KernelRfl
namespace Go.Proofs.Ytpfbloddhfphiaa
/- THE CELL 'sum', in the pinned program and in every row, IS THE sha256 OF THE DUMP (.gsa) THAT YtpfbloddhfphiaaProg.lean LOADS. Nothing in Lean hashes anything: it is a label: what it is worth is what the hold of that sum in a sandbox is worth. -/
noncomputable def Try.pinned : Pinned := { name := "ytpfbloddhfphiaa", sum := "729a8262e55c5fd82d44bce158cc9ee4f5b94d49dcdd29cec01c4e2e03dcb37e", checked := Try.checked }
namespace Rows
def none {H : Type} : Left H := { results := [], args := [] }

/-- 'hauberklaw16.ScanFits': WHATEVER THE INPUT: true; the input reads as it did. -/
def scanFitsSpec : ChangeSpec := { name := "scanFits", fn := fun _ => fun
  | [d1, d2] => { results := [.lit (.bool true)], args := [d1, d2] }
  | _ => none }
def scanFitsRow : OpenClaim := { program := "ytpfbloddhfphiaa", sum := "729a8262e55c5fd82d44bce158cc9ee4f5b94d49dcdd29cec01c4e2e03dcb37e", func := "hauberk/hauberklaw16.ScanFits", spec := "scanFits", inPlace := ["slices.overlaps[int]"], unfollowed := true, recurses := true, apart := false }
def ScanFitsSaid : Prop := scanFitsRow.holds Try.pinned (OpenSpec.ofChange scanFitsSpec)

/-- ITS FALSE NEIGHBOUR: 'it returns false'. Refute it at one input. -/
def scanFitsWrong : ChangeSpec := { name := "scanFits", fn := fun _ => fun
  | [d1, d2] => { results := [.lit (.bool false)], args := [d1, d2] }
  | _ => none }
def ScanFitsWrongFalsely : Prop := scanFitsRow.holds Try.pinned (OpenSpec.ofChange scanFitsWrong)

/-- 'hauberklaw16.ScanGood': WHATEVER THE INPUT: true; the input reads as it did. -/
def scanGoodSpec : ChangeSpec := { name := "scanGood", fn := fun _ => fun
  | [d1, d2, d3] => { results := [.lit (.bool true)], args := [d1, d2, d3] }
  | _ => none }
def scanGoodRow : OpenClaim := { program := "ytpfbloddhfphiaa", sum := "729a8262e55c5fd82d44bce158cc9ee4f5b94d49dcdd29cec01c4e2e03dcb37e", func := "hauberk/hauberklaw16.ScanGood", spec := "scanGood", inPlace := ["slices.overlaps[int]"], unfollowed := true, recurses := true, apart := false }
def ScanGoodSaid : Prop := scanGoodRow.holds Try.pinned (OpenSpec.ofChange scanGoodSpec)

/-- ITS FALSE NEIGHBOUR: 'it returns false'. Refute it at one input. -/
def scanGoodWrong : ChangeSpec := { name := "scanGood", fn := fun _ => fun
  | [d1, d2, d3] => { results := [.lit (.bool false)], args := [d1, d2, d3] }
  | _ => none }
def ScanGoodWrongFalsely : Prop := scanGoodRow.holds Try.pinned (OpenSpec.ofChange scanGoodWrong)

/-- 'hauberklaw16.ScanLeast': WHATEVER THE INPUT: true; the input reads as it did. -/
def scanLeastSpec : ChangeSpec := { name := "scanLeast", fn := fun _ => fun
  | [d1, d2] => { results := [.lit (.bool true)], args := [d1, d2] }
  | _ => none }
def scanLeastRow : OpenClaim := { program := "ytpfbloddhfphiaa", sum := "729a8262e55c5fd82d44bce158cc9ee4f5b94d49dcdd29cec01c4e2e03dcb37e", func := "hauberk/hauberklaw16.ScanLeast", spec := "scanLeast", inPlace := ["slices.overlaps[int]"], unfollowed := true, recurses := true, apart := false }
def ScanLeastSaid : Prop := scanLeastRow.holds Try.pinned (OpenSpec.ofChange scanLeastSpec)

/-- ITS FALSE NEIGHBOUR: 'it returns false'. Refute it at one input. -/
def scanLeastWrong : ChangeSpec := { name := "scanLeast", fn := fun _ => fun
  | [d1, d2] => { results := [.lit (.bool false)], args := [d1, d2] }
  | _ => none }
def ScanLeastWrongFalsely : Prop := scanLeastRow.holds Try.pinned (OpenSpec.ofChange scanLeastWrong)

/-- 'hauberklaw16.ScanTurned': WHATEVER THE INPUT: true; the input reads as it did. -/
def scanTurnedSpec : ChangeSpec := { name := "scanTurned", fn := fun _ => fun
  | [d1, d2, d3] => { results := [.lit (.bool true)], args := [d1, d2, d3] }
  | _ => none }
def scanTurnedRow : OpenClaim := { program := "ytpfbloddhfphiaa", sum := "729a8262e55c5fd82d44bce158cc9ee4f5b94d49dcdd29cec01c4e2e03dcb37e", func := "hauberk/hauberklaw16.ScanTurned", spec := "scanTurned", inPlace := ["slices.overlaps[int]"], unfollowed := true, recurses := true, apart := false }
def ScanTurnedSaid : Prop := scanTurnedRow.holds Try.pinned (OpenSpec.ofChange scanTurnedSpec)

/-- ITS FALSE NEIGHBOUR: 'it returns false'. Refute it at one input. -/
def scanTurnedWrong : ChangeSpec := { name := "scanTurned", fn := fun _ => fun
  | [d1, d2, d3] => { results := [.lit (.bool false)], args := [d1, d2, d3] }
  | _ => none }
def ScanTurnedWrongFalsely : Prop := scanTurnedRow.holds Try.pinned (OpenSpec.ofChange scanTurnedWrong)

/-- 'hauberklaw16.ScanAll': WHATEVER THE INPUT: true; the input reads as it did. -/
def scanAllSpec : ChangeSpec := { name := "scanAll", fn := fun _ => fun
  | [d] => { results := [.lit (.bool true)], args := [d] }
  | _ => none }
def scanAllRow : OpenClaim := { program := "ytpfbloddhfphiaa", sum := "729a8262e55c5fd82d44bce158cc9ee4f5b94d49dcdd29cec01c4e2e03dcb37e", func := "hauberk/hauberklaw16.ScanAll", spec := "scanAll", inPlace := ["slices.overlaps[int]"], unfollowed := true, recurses := true, apart := false }
def ScanAllSaid : Prop := scanAllRow.holds Try.pinned (OpenSpec.ofChange scanAllSpec)

/-- ITS FALSE NEIGHBOUR: 'it returns false'. Refute it at one input. -/
def scanAllWrong : ChangeSpec := { name := "scanAll", fn := fun _ => fun
  | [d] => { results := [.lit (.bool false)], args := [d] }
  | _ => none }
def ScanAllWrongFalsely : Prop := scanAllRow.holds Try.pinned (OpenSpec.ofChange scanAllWrong)

/- THE SECOND FORM. 'bulk': how many values and letters a reading holds, each counted each time it is reached (what is shared counts as often as it is met; a slice's spare places count too). A statement '..UptoSaid' is the law's where the arguments, and the package variables that the reading takes, are together of bulk at most 1048576: NARROWER than '..Said'. Prove '..Said' where nothing that the law and all that it calls make is longer than what came in: it says more and counts as full. Else prove '..UptoSaid'. A law counts once. -/
mutual
def uptoBulk {H : Type} : DataW H → Nat
  | .lit (.string bytes) => bytes.length + 1
  | .lit _ => 1
  | .nil => 1
  | .ptr d => uptoBulk d + 1
  | .slice elems spare => uptoBulkAll elems + uptoBulkAll spare + 1
  | .agg parts => uptoBulkAll parts + 1
  | .iface _ d => uptoBulk d + 1
  | .map entries => uptoBulkEntries entries + 1
  | .held _ => 1
def uptoBulkAll {H : Type} : List (DataW H) → Nat
  | [] => 0
  | d :: r => uptoBulk d + uptoBulkAll r
def uptoBulkEntries {H : Type} : List (Lit × DataW H) → Nat
  | [] => 0
  | x :: r => uptoBulkEntry x + uptoBulkEntries r
def uptoBulkEntry {H : Type} : Lit × DataW H → Nat
  | (.string bytes, d) => bytes.length + uptoBulk d + 1
  | (_, d) => uptoBulk d + 1
 end
def uptoSmall : (H : Type) → List (DataW H) → Bool := fun _ ds => decide (uptoBulkAll ds ≤ 1048576)
def OpenSpec.upto (s : _root_.Go.ChangeSpec) : _root_.Go.OpenSpec := { _root_.Go.OpenSpec.ofChange s with cond := some uptoSmall }

/-- 'hauberklaw16.ScanFits', WHERE WHAT IT READS IS OF BULK AT MOST 1048576: true; the input reads as it did. -/
def scanFitsUptoRow : OpenClaim := { program := "ytpfbloddhfphiaa", sum := "729a8262e55c5fd82d44bce158cc9ee4f5b94d49dcdd29cec01c4e2e03dcb37e", func := "hauberk/hauberklaw16.ScanFits", spec := "scanFits", inPlace := ["slices.overlaps[int]"], unfollowed := true, recurses := true, apart := false, narrowed := true }
def ScanFitsUptoSaid : Prop := scanFitsUptoRow.holds Try.pinned (OpenSpec.upto scanFitsSpec)

/-- 'hauberklaw16.ScanGood', WHERE WHAT IT READS IS OF BULK AT MOST 1048576: true; the input reads as it did. -/
def scanGoodUptoRow : OpenClaim := { program := "ytpfbloddhfphiaa", sum := "729a8262e55c5fd82d44bce158cc9ee4f5b94d49dcdd29cec01c4e2e03dcb37e", func := "hauberk/hauberklaw16.ScanGood", spec := "scanGood", inPlace := ["slices.overlaps[int]"], unfollowed := true, recurses := true, apart := false, narrowed := true }
def ScanGoodUptoSaid : Prop := scanGoodUptoRow.holds Try.pinned (OpenSpec.upto scanGoodSpec)

/-- 'hauberklaw16.ScanLeast', WHERE WHAT IT READS IS OF BULK AT MOST 1048576: true; the input reads as it did. -/
def scanLeastUptoRow : OpenClaim := { program := "ytpfbloddhfphiaa", sum := "729a8262e55c5fd82d44bce158cc9ee4f5b94d49dcdd29cec01c4e2e03dcb37e", func := "hauberk/hauberklaw16.ScanLeast", spec := "scanLeast", inPlace := ["slices.overlaps[int]"], unfollowed := true, recurses := true, apart := false, narrowed := true }
def ScanLeastUptoSaid : Prop := scanLeastUptoRow.holds Try.pinned (OpenSpec.upto scanLeastSpec)

/-- 'hauberklaw16.ScanTurned', WHERE WHAT IT READS IS OF BULK AT MOST 1048576: true; the input reads as it did. -/
def scanTurnedUptoRow : OpenClaim := { program := "ytpfbloddhfphiaa", sum := "729a8262e55c5fd82d44bce158cc9ee4f5b94d49dcdd29cec01c4e2e03dcb37e", func := "hauberk/hauberklaw16.ScanTurned", spec := "scanTurned", inPlace := ["slices.overlaps[int]"], unfollowed := true, recurses := true, apart := false, narrowed := true }
def ScanTurnedUptoSaid : Prop := scanTurnedUptoRow.holds Try.pinned (OpenSpec.upto scanTurnedSpec)

/-- 'hauberklaw16.ScanAll', WHERE WHAT IT READS IS OF BULK AT MOST 1048576: true; the input reads as it did. -/
def scanAllUptoRow : OpenClaim := { program := "ytpfbloddhfphiaa", sum := "729a8262e55c5fd82d44bce158cc9ee4f5b94d49dcdd29cec01c4e2e03dcb37e", func := "hauberk/hauberklaw16.ScanAll", spec := "scanAll", inPlace := ["slices.overlaps[int]"], unfollowed := true, recurses := true, apart := false, narrowed := true }
def ScanAllUptoSaid : Prop := scanAllUptoRow.holds Try.pinned (OpenSpec.upto scanAllSpec)

end Rows
end Go.Proofs.Ytpfbloddhfphiaa
