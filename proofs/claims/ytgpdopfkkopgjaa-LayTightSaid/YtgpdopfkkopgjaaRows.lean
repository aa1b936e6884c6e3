/-
  No cell of these rows narrows 'for every input' (looked for: loops, veiled, ifaces, maps, wideKeys, modest, calm, conditions, laid).
  DERIVED. THE GIVEN ROWS OF THIS SEAT. 5 by the template 'for every input the law returns true; each argument reads behind the call as it read before'; 0 by the template 'total and deterministic' (their statements: YtgpdopfkkopgjaaTotals.lean).
  GIVEN WITH THE SEED: the statements are not yours to turn. If you find one false, say at which input.
  Laid BY PROGRAM, IN A SANDBOX (cutbox-rows.mjs): the forced cells as the released guide's own fill.sh prints them over the translation 8607077580d75eac… (all of the seat's roots in one cut). By AI agents, Wed Nov 11 2026. No macro, syntax, notation, axiom, sorry.
-/
import Derived.Test.YtgpdopfkkopgjaaChecked
import GoSem.Claim
import GoSem.ClaimJoined
import GoSem.ClaimMapViews
import Derived.JoinedTies
import Derived.KernelRfl
namespace Go.Proofs.Ytgpdopfkkopgjaa
/- THE CELL 'sum', in the pinned program and in every row, IS THE sha256 OF THE DUMP (.gsa) THAT YtgpdopfkkopgjaaProg.lean LOADS. Nothing in Lean hashes anything: it is a label: what it is worth is what the hold of that sum in a sandbox is worth. -/
noncomputable def Try.pinned : Pinned := { name := "ytgpdopfkkopgjaa", sum := "8607077580d75eacdd14ba5c84a882073338bc0a7576ec3d8258d21b557a8194", checked := Try.checked }
namespace Rows
def none {H : Type} : Left H := { results := [], args := [] }

/-- 'hauberklaw04.LayTight': WHATEVER THE INPUT: true; the input reads as it did. -/
def layTightSpec : ChangeSpec := { name := "layTight", fn := fun _ => fun
  | [d] => { results := [.lit (.bool true)], args := [d] }
  | _ => none }
def layTightRow : OpenClaim := { program := "ytgpdopfkkopgjaa", sum := "8607077580d75eacdd14ba5c84a882073338bc0a7576ec3d8258d21b557a8194", func := "hauberk/hauberklaw04.LayTight", spec := "layTight", unfollowed := true, recurses := true, plainKeys := false, apart := false }
def LayTightSaid : Prop := layTightRow.holds Try.pinned (OpenSpec.ofChange layTightSpec)

/-- ITS FALSE NEIGHBOUR: 'it returns false'. Refute it at one input. -/
def layTightWrong : ChangeSpec := { name := "layTight", fn := fun _ => fun
  | [d] => { results := [.lit (.bool false)], args := [d] }
  | _ => none }
def LayTightWrongFalsely : Prop := layTightRow.holds Try.pinned (OpenSpec.ofChange layTightWrong)

/-- 'hauberklaw04.LayPlaces': WHATEVER THE INPUT: true; the input reads as it did. -/
def layPlacesSpec : ChangeSpec := { name := "layPlaces", fn := fun _ => fun
  | [d1, d2, d3] => { results := [.lit (.bool true)], args := [d1, d2, d3] }
  | _ => none }
def layPlacesRow : OpenClaim := { program := "ytgpdopfkkopgjaa", sum := "8607077580d75eacdd14ba5c84a882073338bc0a7576ec3d8258d21b557a8194", func := "hauberk/hauberklaw04.LayPlaces", spec := "layPlaces", unfollowed := true, recurses := true, plainKeys := false, apart := false }
def LayPlacesSaid : Prop := layPlacesRow.holds Try.pinned (OpenSpec.ofChange layPlacesSpec)

/-- ITS FALSE NEIGHBOUR: 'it returns false'. Refute it at one input. -/
def layPlacesWrong : ChangeSpec := { name := "layPlaces", fn := fun _ => fun
  | [d1, d2, d3] => { results := [.lit (.bool false)], args := [d1, d2, d3] }
  | _ => none }
def LayPlacesWrongFalsely : Prop := layPlacesRow.holds Try.pinned (OpenSpec.ofChange layPlacesWrong)

/-- 'hauberklaw04.LayFields': WHATEVER THE INPUT: true; the input reads as it did. -/
def layFieldsSpec : ChangeSpec := { name := "layFields", fn := fun _ => fun
  | [d] => { results := [.lit (.bool true)], args := [d] }
  | _ => none }
def layFieldsRow : OpenClaim := { program := "ytgpdopfkkopgjaa", sum := "8607077580d75eacdd14ba5c84a882073338bc0a7576ec3d8258d21b557a8194", func := "hauberk/hauberklaw04.LayFields", spec := "layFields", unfollowed := true, recurses := true, plainKeys := false, apart := false }
def LayFieldsSaid : Prop := layFieldsRow.holds Try.pinned (OpenSpec.ofChange layFieldsSpec)

/-- ITS FALSE NEIGHBOUR: 'it returns false'. Refute it at one input. -/
def layFieldsWrong : ChangeSpec := { name := "layFields", fn := fun _ => fun
  | [d] => { results := [.lit (.bool false)], args := [d] }
  | _ => none }
def LayFieldsWrongFalsely : Prop := layFieldsRow.holds Try.pinned (OpenSpec.ofChange layFieldsWrong)

/-- 'hauberklaw04.LayCells': WHATEVER THE INPUT: true; the input reads as it did. -/
def layCellsSpec : ChangeSpec := { name := "layCells", fn := fun _ => fun
  | [d1, d2, d3] => { results := [.lit (.bool true)], args := [d1, d2, d3] }
  | _ => none }
def layCellsRow : OpenClaim := { program := "ytgpdopfkkopgjaa", sum := "8607077580d75eacdd14ba5c84a882073338bc0a7576ec3d8258d21b557a8194", func := "hauberk/hauberklaw04.LayCells", spec := "layCells", unfollowed := true, recurses := true, plainKeys := false, apart := false }
def LayCellsSaid : Prop := layCellsRow.holds Try.pinned (OpenSpec.ofChange layCellsSpec)

/-- ITS FALSE NEIGHBOUR: 'it returns false'. Refute it at one input. -/
def layCellsWrong : ChangeSpec := { name := "layCells", fn := fun _ => fun
  | [d1, d2, d3] => { results := [.lit (.bool false)], args := [d1, d2, d3] }
  | _ => none }
def LayCellsWrongFalsely : Prop := layCellsRow.holds Try.pinned (OpenSpec.ofChange layCellsWrong)

/-- 'hauberklaw04.LayApart': WHATEVER THE INPUT: true; the input reads as it did. -/
def layApartSpec : ChangeSpec := { name := "layApart", fn := fun _ => fun
  | [d1, d2, d3] => { results := [.lit (.bool true)], args := [d1, d2, d3] }
  | _ => none }
def layApartRow : OpenClaim := { program := "ytgpdopfkkopgjaa", sum := "8607077580d75eacdd14ba5c84a882073338bc0a7576ec3d8258d21b557a8194", func := "hauberk/hauberklaw04.LayApart", spec := "layApart", unfollowed := true, recurses := true, plainKeys := false, apart := false }
def LayApartSaid : Prop := layApartRow.holds Try.pinned (OpenSpec.ofChange layApartSpec)

/-- ITS FALSE NEIGHBOUR: 'it returns false'. Refute it at one input. -/
def layApartWrong : ChangeSpec := { name := "layApart", fn := fun _ => fun
  | [d1, d2, d3] => { results := [.lit (.bool false)], args := [d1, d2, d3] }
  | _ => none }
def LayApartWrongFalsely : Prop := layApartRow.holds Try.pinned (OpenSpec.ofChange layApartWrong)

/- THE SECOND FORM. 'bulk': how many values and letters a reading holds, each counted each time it is reached (what is shared counts as often as it is met; a slice's spare places count too). A statement '..UptoSaid' is the law's where the arguments, and the package variables that the reading takes, are together of bulk at most 1048576: NARROWER than '..Said'. Prove '..Said' where nothing that the law and all that it calls make is longer than what came in: it says more and counts as full. Else prove '..UptoSaid'. A law counts once. -/
mutual
def uptoBulk {H : Type} : DataW H → Nat
  | .lit (.string bytes) => bytes.length + 1
  | .lit _ => 1
  | .nil => 1
  | .ptr d => uptoBulk d + 1
  | .slice elems spare => uptoBulkAll elems + uptoBulkAll spare + 1
  | .agg parts => uptoBulkAll parts + 1
  | .iface _ d => uptoBulk d + 1
  | .map entries => uptoBulkEntries entries + 1
  | .held _ => 1
def uptoBulkAll {H : Type} : List (DataW H) → Nat
  | [] => 0
  | d :: r => uptoBulk d + uptoBulkAll r
def uptoBulkEntries {H : Type} : List (Lit × DataW H) → Nat
  | [] => 0
  | x :: r => uptoBulkEntry x + uptoBulkEntries r
def uptoBulkEntry {H : Type} : Lit × DataW H → Nat
  | (.string bytes, d) => bytes.length + uptoBulk d + 1
  | (_, d) => uptoBulk d + 1
 end
def uptoSmall : (H : Type) → List (DataW H) → Bool := fun _ ds => decide (uptoBulkAll ds ≤ 1048576)
def OpenSpec.upto (s : _root_.Go.ChangeSpec) : _root_.Go.OpenSpec := { _root_.Go.OpenSpec.ofChange s with cond := some uptoSmall }

/-- 'hauberklaw04.LayTight', WHERE WHAT IT READS IS OF BULK AT MOST 1048576: true; the input reads as it did. -/
def layTightUptoRow : OpenClaim := { program := "ytgpdopfkkopgjaa", sum := "8607077580d75eacdd14ba5c84a882073338bc0a7576ec3d8258d21b557a8194", func := "hauberk/hauberklaw04.LayTight", spec := "layTight", unfollowed := true, recurses := true, plainKeys := false, apart := false, narrowed := true }
def LayTightUptoSaid : Prop := layTightUptoRow.holds Try.pinned (OpenSpec.upto layTightSpec)

/-- 'hauberklaw04.LayPlaces', WHERE WHAT IT READS IS OF BULK AT MOST 1048576: true; the input reads as it did. -/
def layPlacesUptoRow : OpenClaim := { program := "ytgpdopfkkopgjaa", sum := "8607077580d75eacdd14ba5c84a882073338bc0a7576ec3d8258d21b557a8194", func := "hauberk/hauberklaw04.LayPlaces", spec := "layPlaces", unfollowed := true, recurses := true, plainKeys := false, apart := false, narrowed := true }
def LayPlacesUptoSaid : Prop := layPlacesUptoRow.holds Try.pinned (OpenSpec.upto layPlacesSpec)

/-- 'hauberklaw04.LayFields', WHERE WHAT IT READS IS OF BULK AT MOST 1048576: true; the input reads as it did. -/
def layFieldsUptoRow : OpenClaim := { program := "ytgpdopfkkopgjaa", sum := "8607077580d75eacdd14ba5c84a882073338bc0a7576ec3d8258d21b557a8194", func := "hauberk/hauberklaw04.LayFields", spec := "layFields", unfollowed := true, recurses := true, plainKeys := false, apart := false, narrowed := true }
def LayFieldsUptoSaid : Prop := layFieldsUptoRow.holds Try.pinned (OpenSpec.upto layFieldsSpec)

/-- 'hauberklaw04.LayCells', WHERE WHAT IT READS IS OF BULK AT MOST 1048576: true; the input reads as it did. -/
def layCellsUptoRow : OpenClaim := { program := "ytgpdopfkkopgjaa", sum := "8607077580d75eacdd14ba5c84a882073338bc0a7576ec3d8258d21b557a8194", func := "hauberk/hauberklaw04.LayCells", spec := "layCells", unfollowed := true, recurses := true, plainKeys := false, apart := false, narrowed := true }
def LayCellsUptoSaid : Prop := layCellsUptoRow.holds Try.pinned (OpenSpec.upto layCellsSpec)

/-- 'hauberklaw04.LayApart', WHERE WHAT IT READS IS OF BULK AT MOST 1048576: true; the input reads as it did. -/
def layApartUptoRow : OpenClaim := { program := "ytgpdopfkkopgjaa", sum := "8607077580d75eacdd14ba5c84a882073338bc0a7576ec3d8258d21b557a8194", func := "hauberk/hauberklaw04.LayApart", spec := "layApart", unfollowed := true, recurses := true, plainKeys := false, apart := false, narrowed := true }
def LayApartUptoSaid : Prop := layApartUptoRow.holds Try.pinned (OpenSpec.upto layApartSpec)

end Rows
end Go.Proofs.Ytgpdopfkkopgjaa
