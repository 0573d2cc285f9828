/-
  DERIVED. GIVEN WITH THE SEED: THE CARDS: each row of YtaolhgjnlmaooaaDoorRows.lean that lists a variable, with what it lists TIED to the program's text (the seventh form; the later family's looks); each row that meets fmt, with fmt's text TOLD by the authors' own Lean function (tested against real Go, not proved from fmt's source: count such statements apart). THE CARD IS WHAT COUNTS. Prove the row's statement (the work); the ties are given (YtaolhgjnlmaooaaDoorTie.lean); close each card by the builder's one call (the guide's Derived/Test/ToyasCard.lean, 'card_holds'). Laid BY PROGRAM, IN A SANDBOX (cutbox-door.mjs). By AI agents, Wed Nov 11 2026. No macro, syntax, notation, axiom, sorry.
-/
import Derived.Test.YtaolhgjnlmaooaaDoorRows
import GoSem.ClaimSeven
namespace Go.Proofs.YtaolhgjnlmaooaaDoor
namespace Rows

/-- THE TIED CARD OF 'laws.FnExactShowSegment'. -/
def fnExactShowSegmentCard : Claim7 := { stood := { row := fnExactShowSegmentRow, standIns := [], harness := (true, "d1ac4fdb76ba2f641ca7f9c1dbc9d794f289a29d3f6e74514f579ef8fc0a5732"), looks := false }, kinds := [], alts := [], laidByText := true, laidKinds := [.data, .data, .data], laidTests := true, laidLooks := .later }
def FnExactShowSegmentCardSaid : Prop := Claim7.holds Tryd.pinned (.plain (OpenSpec.ofChange fnExactShowSegmentSpec)) fnExactShowSegmentCard

/-- THE TIED CARD OF 'laws.FnExactShowReply'. -/
def fnExactShowReplyCard : Claim7 := { stood := { row := fnExactShowReplyRow, standIns := [], harness := (true, "d1ac4fdb76ba2f641ca7f9c1dbc9d794f289a29d3f6e74514f579ef8fc0a5732"), looks := false }, kinds := [], alts := [], laidByText := true, laidKinds := [.data, .data, .data, .data, .pinned], laidTests := true, laidLooks := .later }
def FnExactShowReplyCardSaid : Prop := Claim7.holds Tryd.pinned (.plain (OpenSpec.ofChange fnExactShowReplySpec)) fnExactShowReplyCard

/-- THE TIED CARD OF 'laws.FnExactShowRequest'. -/
def fnExactShowRequestCard : Claim7 := { stood := { row := fnExactShowRequestRow, standIns := [], harness := (true, "d1ac4fdb76ba2f641ca7f9c1dbc9d794f289a29d3f6e74514f579ef8fc0a5732"), looks := false }, kinds := [], alts := [], laidByText := true, laidKinds := [.data, .data, .data, .data, .pinned], laidTests := true, laidLooks := .later }
def FnExactShowRequestCardSaid : Prop := Claim7.holds Tryd.pinned (.plain (OpenSpec.ofChange fnExactShowRequestSpec)) fnExactShowRequestCard

/-- THE SECOND FORM's CARD OF 'laws.FnExactShowSegment'. -/
def fnExactShowSegmentUptoCard : Claim7 := { stood := { row := fnExactShowSegmentUptoRow, standIns := [], harness := (true, "d1ac4fdb76ba2f641ca7f9c1dbc9d794f289a29d3f6e74514f579ef8fc0a5732"), looks := false }, kinds := [], alts := [], laidByText := true, laidKinds := [.data, .data, .data], laidTests := true, laidLooks := .later }
def FnExactShowSegmentUptoCardSaid : Prop := Claim7.holds Tryd.pinned (.plain (OpenSpec.upto fnExactShowSegmentSpec)) fnExactShowSegmentUptoCard

/-- THE SECOND FORM's CARD OF 'laws.FnExactShowReply'. -/
def fnExactShowReplyUptoCard : Claim7 := { stood := { row := fnExactShowReplyUptoRow, standIns := [], harness := (true, "d1ac4fdb76ba2f641ca7f9c1dbc9d794f289a29d3f6e74514f579ef8fc0a5732"), looks := false }, kinds := [], alts := [], laidByText := true, laidKinds := [.data, .data, .data, .data, .pinned], laidTests := true, laidLooks := .later }
def FnExactShowReplyUptoCardSaid : Prop := Claim7.holds Tryd.pinned (.plain (OpenSpec.upto fnExactShowReplySpec)) fnExactShowReplyUptoCard

/-- THE SECOND FORM's CARD OF 'laws.FnExactShowRequest'. -/
def fnExactShowRequestUptoCard : Claim7 := { stood := { row := fnExactShowRequestUptoRow, standIns := [], harness := (true, "d1ac4fdb76ba2f641ca7f9c1dbc9d794f289a29d3f6e74514f579ef8fc0a5732"), looks := false }, kinds := [], alts := [], laidByText := true, laidKinds := [.data, .data, .data, .data, .pinned], laidTests := true, laidLooks := .later }
def FnExactShowRequestUptoCardSaid : Prop := Claim7.holds Tryd.pinned (.plain (OpenSpec.upto fnExactShowRequestSpec)) fnExactShowRequestUptoCard
end Rows
end Go.Proofs.YtaolhgjnlmaooaaDoor
