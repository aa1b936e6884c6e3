/-
  DERIVED. GIVEN WITH THE SEED: THE CARDS: each row of YtjfleaekljapeaaDoorRows.lean that lists a variable, with what it lists TIED to the program's text (the seventh form; the later family's looks); each row that meets fmt, with fmt's text TOLD by the authors' own Lean function (tested against real Go, not proved from fmt's source: count such statements apart). THE CARD IS WHAT COUNTS. Prove the row's statement (the work); the ties are given (YtjfleaekljapeaaDoorTie.lean); close each card by the builder's one call (the guide's Derived/Test/ToyasCard.lean, 'card_holds'). Laid BY PROGRAM, IN A SANDBOX (cutbox-door.mjs). By AI agents, Wed Nov 11 2026. No macro, syntax, notation, axiom, sorry.
-/
import Derived.Test.YtjfleaekljapeaaDoorRows
import GoSem.ClaimSeven
namespace Go.Proofs.YtjfleaekljapeaaDoor
namespace Rows

/-- THE TIED CARD OF 'hauberklaw15.SpanLive'. -/
def spanLiveCard : Claim7 := { stood := { row := spanLiveRow, standIns := [], harness := (true, "a0de20b26068d5e9c108f7bf1afa9bc87cba378ee92dbffe1dc7b6ceb9ce481b"), looks := false }, kinds := [], alts := [], laidByText := true, laidKinds := [.data], laidTests := true, laidLooks := .later }
def SpanLiveCardSaid : Prop := Claim7.holds Tryd.pinned (.plain (OpenSpec.ofChange spanLiveSpec)) spanLiveCard

/-- THE TIED CARD OF 'hauberklaw15.SpanSpans'. -/
def spanSpansCard : Claim7 := { stood := { row := spanSpansRow, standIns := [], harness := (true, "a0de20b26068d5e9c108f7bf1afa9bc87cba378ee92dbffe1dc7b6ceb9ce481b"), looks := false }, kinds := [], alts := [], laidByText := true, laidKinds := [.data], laidTests := true, laidLooks := .later }
def SpanSpansCardSaid : Prop := Claim7.holds Tryd.pinned (.plain (OpenSpec.ofChange spanSpansSpec)) spanSpansCard

/-- THE TIED CARD OF 'hauberklaw15.SpanRows'. -/
def spanRowsCard : Claim7 := { stood := { row := spanRowsRow, standIns := [], harness := (true, "a0de20b26068d5e9c108f7bf1afa9bc87cba378ee92dbffe1dc7b6ceb9ce481b"), looks := false }, kinds := [], alts := [], laidByText := true, laidKinds := [.data], laidTests := true, laidLooks := .later }
def SpanRowsCardSaid : Prop := Claim7.holds Tryd.pinned (.plain (OpenSpec.ofChange spanRowsSpec)) spanRowsCard

/-- THE TIED CARD OF 'hauberklaw15.SpanMeets'. -/
def spanMeetsCard : Claim7 := { stood := { row := spanMeetsRow, standIns := [], harness := (true, "a0de20b26068d5e9c108f7bf1afa9bc87cba378ee92dbffe1dc7b6ceb9ce481b"), looks := false }, kinds := [], alts := [], laidByText := true, laidKinds := [.data], laidTests := true, laidLooks := .later }
def SpanMeetsCardSaid : Prop := Claim7.holds Tryd.pinned (.plain (OpenSpec.ofChange spanMeetsSpec)) spanMeetsCard

/-- THE TIED CARD OF 'hauberklaw15.SpanShares'. -/
def spanSharesCard : Claim7 := { stood := { row := spanSharesRow, standIns := [], harness := (true, "a0de20b26068d5e9c108f7bf1afa9bc87cba378ee92dbffe1dc7b6ceb9ce481b"), looks := false }, kinds := [], alts := [], laidByText := true, laidKinds := [.data], laidTests := true, laidLooks := .later }
def SpanSharesCardSaid : Prop := Claim7.holds Tryd.pinned (.plain (OpenSpec.ofChange spanSharesSpec)) spanSharesCard

/-- THE TIED CARD OF 'hauberklaw15.SpanMost'. -/
def spanMostCard : Claim7 := { stood := { row := spanMostRow, standIns := [], harness := (true, "a0de20b26068d5e9c108f7bf1afa9bc87cba378ee92dbffe1dc7b6ceb9ce481b"), looks := false }, kinds := [], alts := [], laidByText := true, laidKinds := [.data], laidTests := true, laidLooks := .later }
def SpanMostCardSaid : Prop := Claim7.holds Tryd.pinned (.plain (OpenSpec.ofChange spanMostSpec)) spanMostCard

/-- THE SECOND FORM's CARD OF 'hauberklaw15.SpanLive'. -/
def spanLiveUptoCard : Claim7 := { stood := { row := spanLiveUptoRow, standIns := [], harness := (true, "a0de20b26068d5e9c108f7bf1afa9bc87cba378ee92dbffe1dc7b6ceb9ce481b"), looks := false }, kinds := [], alts := [], laidByText := true, laidKinds := [.data], laidTests := true, laidLooks := .later }
def SpanLiveUptoCardSaid : Prop := Claim7.holds Tryd.pinned (.plain (OpenSpec.upto spanLiveSpec)) spanLiveUptoCard

/-- THE SECOND FORM's CARD OF 'hauberklaw15.SpanSpans'. -/
def spanSpansUptoCard : Claim7 := { stood := { row := spanSpansUptoRow, standIns := [], harness := (true, "a0de20b26068d5e9c108f7bf1afa9bc87cba378ee92dbffe1dc7b6ceb9ce481b"), looks := false }, kinds := [], alts := [], laidByText := true, laidKinds := [.data], laidTests := true, laidLooks := .later }
def SpanSpansUptoCardSaid : Prop := Claim7.holds Tryd.pinned (.plain (OpenSpec.upto spanSpansSpec)) spanSpansUptoCard

/-- THE SECOND FORM's CARD OF 'hauberklaw15.SpanRows'. -/
def spanRowsUptoCard : Claim7 := { stood := { row := spanRowsUptoRow, standIns := [], harness := (true, "a0de20b26068d5e9c108f7bf1afa9bc87cba378ee92dbffe1dc7b6ceb9ce481b"), looks := false }, kinds := [], alts := [], laidByText := true, laidKinds := [.data], laidTests := true, laidLooks := .later }
def SpanRowsUptoCardSaid : Prop := Claim7.holds Tryd.pinned (.plain (OpenSpec.upto spanRowsSpec)) spanRowsUptoCard

/-- THE SECOND FORM's CARD OF 'hauberklaw15.SpanMeets'. -/
def spanMeetsUptoCard : Claim7 := { stood := { row := spanMeetsUptoRow, standIns := [], harness := (true, "a0de20b26068d5e9c108f7bf1afa9bc87cba378ee92dbffe1dc7b6ceb9ce481b"), looks := false }, kinds := [], alts := [], laidByText := true, laidKinds := [.data], laidTests := true, laidLooks := .later }
def SpanMeetsUptoCardSaid : Prop := Claim7.holds Tryd.pinned (.plain (OpenSpec.upto spanMeetsSpec)) spanMeetsUptoCard

/-- THE SECOND FORM's CARD OF 'hauberklaw15.SpanShares'. -/
def spanSharesUptoCard : Claim7 := { stood := { row := spanSharesUptoRow, standIns := [], harness := (true, "a0de20b26068d5e9c108f7bf1afa9bc87cba378ee92dbffe1dc7b6ceb9ce481b"), looks := false }, kinds := [], alts := [], laidByText := true, laidKinds := [.data], laidTests := true, laidLooks := .later }
def SpanSharesUptoCardSaid : Prop := Claim7.holds Tryd.pinned (.plain (OpenSpec.upto spanSharesSpec)) spanSharesUptoCard

/-- THE SECOND FORM's CARD OF 'hauberklaw15.SpanMost'. -/
def spanMostUptoCard : Claim7 := { stood := { row := spanMostUptoRow, standIns := [], harness := (true, "a0de20b26068d5e9c108f7bf1afa9bc87cba378ee92dbffe1dc7b6ceb9ce481b"), looks := false }, kinds := [], alts := [], laidByText := true, laidKinds := [.data], laidTests := true, laidLooks := .later }
def SpanMostUptoCardSaid : Prop := Claim7.holds Tryd.pinned (.plain (OpenSpec.upto spanMostSpec)) spanMostUptoCard
end Rows
end Go.Proofs.YtjfleaekljapeaaDoor
