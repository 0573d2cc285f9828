/-
  DERIVED. GIVEN WITH THE SEED: THE CARDS: each row of YtdpaehdolhdjdaaDoorRows.lean that lists a variable, with what it lists TIED to the program's text (the seventh form; the later family's looks); each row that meets fmt, with fmt's text TOLD by the authors' own Lean function (tested against real Go, not proved from fmt's source: count such statements apart). THE CARD IS WHAT COUNTS. Prove the row's statement (the work); the ties are given (YtdpaehdolhdjdaaDoorTie.lean); close each card by the builder's one call (the guide's Derived/Test/ToyasCard.lean, 'card_holds'). Laid BY PROGRAM, IN A SANDBOX (cutbox-door.mjs). By AI agents, Wed Nov 11 2026. No macro, syntax, notation, axiom, sorry.
-/
import Derived.Test.YtdpaehdolhdjdaaDoorRows
import GoSem.ClaimSeven
namespace Go.Proofs.YtdpaehdolhdjdaaDoor
namespace Rows

/-- THE TIED CARD OF 'laws.FnExactReadReplies'. -/
def fnExactReadRepliesCard : Claim7 := { stood := { row := fnExactReadRepliesRow, standIns := [], harness := (true, "9a30912c999545e9578bdff769a183f577e192bd7f818918242d753d78d7e0fb"), looks := false }, kinds := [], alts := [], laidByText := true, laidKinds := [.data, .pinned], laidTests := true, laidLooks := .later }
def FnExactReadRepliesCardSaid : Prop := Claim7.holds Tryd.pinned (.plain (OpenSpec.ofChange fnExactReadRepliesSpec)) fnExactReadRepliesCard

/-- THE TIED CARD OF 'laws.FnExactReadRequests'. -/
def fnExactReadRequestsCard : Claim7 := { stood := { row := fnExactReadRequestsRow, standIns := [], harness := (true, "9a30912c999545e9578bdff769a183f577e192bd7f818918242d753d78d7e0fb"), looks := false }, kinds := [], alts := [], laidByText := true, laidKinds := [.data, .pinned], laidTests := true, laidLooks := .later }
def FnExactReadRequestsCardSaid : Prop := Claim7.holds Tryd.pinned (.plain (OpenSpec.ofChange fnExactReadRequestsSpec)) fnExactReadRequestsCard

/-- THE TIED CARD OF 'laws.FnExactReadSegment'. -/
def fnExactReadSegmentCard : Claim7 := { stood := { row := fnExactReadSegmentRow, standIns := [], harness := (true, "9a30912c999545e9578bdff769a183f577e192bd7f818918242d753d78d7e0fb"), looks := false }, kinds := [], alts := [], laidByText := true, laidKinds := [.data, .data, .data, .data, .sentinel, .pinned], laidTests := true, laidLooks := .later }
def FnExactReadSegmentCardSaid : Prop := Claim7.holds Tryd.pinned (.plain (OpenSpec.ofChange fnExactReadSegmentSpec)) fnExactReadSegmentCard

/-- THE TIED CARD OF 'laws.FnQuestions'. -/
def fnQuestionsCard : Claim7 := { stood := { row := fnQuestionsRow, standIns := [], harness := (true, "9a30912c999545e9578bdff769a183f577e192bd7f818918242d753d78d7e0fb"), looks := false }, kinds := [], alts := [], laidByText := true, laidKinds := [.data, .pinned], laidTests := true, laidLooks := .later }
def FnQuestionsCardSaid : Prop := Claim7.holds Tryd.pinned (.plain (OpenSpec.ofChange fnQuestionsSpec)) fnQuestionsCard

/-- THE TIED CARD OF 'laws.FnSegmentText'. -/
def fnSegmentTextCard : Claim7 := { stood := { row := fnSegmentTextRow, standIns := [], harness := (true, "9a30912c999545e9578bdff769a183f577e192bd7f818918242d753d78d7e0fb"), looks := false }, kinds := [], alts := [], laidByText := true, laidKinds := [.data, .data, .data, .data, .sentinel, .pinned], laidTests := true, laidLooks := .later }
def FnSegmentTextCardSaid : Prop := Claim7.holds Tryd.pinned (.plain (OpenSpec.ofChange fnSegmentTextSpec)) fnSegmentTextCard

/-- THE SECOND FORM's CARD OF 'laws.FnExactReadReplies'. -/
def fnExactReadRepliesUptoCard : Claim7 := { stood := { row := fnExactReadRepliesUptoRow, standIns := [], harness := (true, "9a30912c999545e9578bdff769a183f577e192bd7f818918242d753d78d7e0fb"), looks := false }, kinds := [], alts := [], laidByText := true, laidKinds := [.data, .pinned], laidTests := true, laidLooks := .later }
def FnExactReadRepliesUptoCardSaid : Prop := Claim7.holds Tryd.pinned (.plain (OpenSpec.upto fnExactReadRepliesSpec)) fnExactReadRepliesUptoCard

/-- THE SECOND FORM's CARD OF 'laws.FnExactReadRequests'. -/
def fnExactReadRequestsUptoCard : Claim7 := { stood := { row := fnExactReadRequestsUptoRow, standIns := [], harness := (true, "9a30912c999545e9578bdff769a183f577e192bd7f818918242d753d78d7e0fb"), looks := false }, kinds := [], alts := [], laidByText := true, laidKinds := [.data, .pinned], laidTests := true, laidLooks := .later }
def FnExactReadRequestsUptoCardSaid : Prop := Claim7.holds Tryd.pinned (.plain (OpenSpec.upto fnExactReadRequestsSpec)) fnExactReadRequestsUptoCard

/-- THE SECOND FORM's CARD OF 'laws.FnExactReadSegment'. -/
def fnExactReadSegmentUptoCard : Claim7 := { stood := { row := fnExactReadSegmentUptoRow, standIns := [], harness := (true, "9a30912c999545e9578bdff769a183f577e192bd7f818918242d753d78d7e0fb"), looks := false }, kinds := [], alts := [], laidByText := true, laidKinds := [.data, .data, .data, .data, .sentinel, .pinned], laidTests := true, laidLooks := .later }
def FnExactReadSegmentUptoCardSaid : Prop := Claim7.holds Tryd.pinned (.plain (OpenSpec.upto fnExactReadSegmentSpec)) fnExactReadSegmentUptoCard

/-- THE SECOND FORM's CARD OF 'laws.FnQuestions'. -/
def fnQuestionsUptoCard : Claim7 := { stood := { row := fnQuestionsUptoRow, standIns := [], harness := (true, "9a30912c999545e9578bdff769a183f577e192bd7f818918242d753d78d7e0fb"), looks := false }, kinds := [], alts := [], laidByText := true, laidKinds := [.data, .pinned], laidTests := true, laidLooks := .later }
def FnQuestionsUptoCardSaid : Prop := Claim7.holds Tryd.pinned (.plain (OpenSpec.upto fnQuestionsSpec)) fnQuestionsUptoCard

/-- THE SECOND FORM's CARD OF 'laws.FnSegmentText'. -/
def fnSegmentTextUptoCard : Claim7 := { stood := { row := fnSegmentTextUptoRow, standIns := [], harness := (true, "9a30912c999545e9578bdff769a183f577e192bd7f818918242d753d78d7e0fb"), looks := false }, kinds := [], alts := [], laidByText := true, laidKinds := [.data, .data, .data, .data, .sentinel, .pinned], laidTests := true, laidLooks := .later }
def FnSegmentTextUptoCardSaid : Prop := Claim7.holds Tryd.pinned (.plain (OpenSpec.upto fnSegmentTextSpec)) fnSegmentTextUptoCard
end Rows
end Go.Proofs.YtdpaehdolhdjdaaDoor
