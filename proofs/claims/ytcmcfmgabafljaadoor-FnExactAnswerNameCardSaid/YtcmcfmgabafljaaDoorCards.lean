/-
  DERIVED. GIVEN WITH THE SEED: THE CARDS: each row of YtcmcfmgabafljaaDoorRows.lean that lists a variable, with what it lists TIED to the program's text (the seventh form; the later family's looks); each row that meets fmt, with fmt's text TOLD by the authors' own Lean function (tested against real Go, not proved from fmt's source: count such statements apart). THE CARD IS WHAT COUNTS. Prove the row's statement (the work); the ties are given (YtcmcfmgabafljaaDoorTie.lean); close each card by the builder's one call (the guide's Derived/Test/ToyasCard.lean, 'card_holds'). Laid BY PROGRAM, IN A SANDBOX (cutbox-door.mjs). By AI agents, Wed Nov 11 2026. No macro, syntax, notation, axiom, sorry.
-/
import Derived.Test.YtcmcfmgabafljaaDoorRows
import GoSem.ClaimSeven
namespace Go.Proofs.YtcmcfmgabafljaaDoor
namespace Rows

/-- THE TIED CARD OF 'laws.FnExactNameOK'. -/
def fnExactNameOKCard : Claim7 := { stood := { row := fnExactNameOKRow, standIns := [], harness := (true, "397b519ccdd0a21e6850c904f0d48666aade4266262cda16632efe5c8977fdee"), looks := false }, kinds := [], alts := [], laidByText := true, laidKinds := [.data, .pinned], laidTests := true, laidLooks := .later }
def FnExactNameOKCardSaid : Prop := Claim7.holds Tryd.pinned (.plain (OpenSpec.ofChange fnExactNameOKSpec)) fnExactNameOKCard

/-- THE TIED CARD OF 'laws.FnExactEncodeQuery'. -/
def fnExactEncodeQueryCard : Claim7 := { stood := { row := fnExactEncodeQueryRow, standIns := [], harness := (true, "397b519ccdd0a21e6850c904f0d48666aade4266262cda16632efe5c8977fdee"), looks := false }, kinds := [], alts := [], laidByText := true, laidKinds := [.data, .pinned], laidTests := true, laidLooks := .later }
def FnExactEncodeQueryCardSaid : Prop := Claim7.holds Tryd.pinned (.plain (OpenSpec.ofChange fnExactEncodeQuerySpec)) fnExactEncodeQueryCard

/-- THE TIED CARD OF 'laws.FnExactDecodeQuery'. -/
def fnExactDecodeQueryCard : Claim7 := { stood := { row := fnExactDecodeQueryRow, standIns := [], harness := (true, "397b519ccdd0a21e6850c904f0d48666aade4266262cda16632efe5c8977fdee"), looks := false }, kinds := [], alts := [], laidByText := true, laidKinds := [.data, .pinned], laidTests := true, laidLooks := .later }
def FnExactDecodeQueryCardSaid : Prop := Claim7.holds Tryd.pinned (.plain (OpenSpec.ofChange fnExactDecodeQuerySpec)) fnExactDecodeQueryCard

/-- THE TIED CARD OF 'laws.FnExactEncodeReply'. -/
def fnExactEncodeReplyCard : Claim7 := { stood := { row := fnExactEncodeReplyRow, standIns := [], harness := (true, "397b519ccdd0a21e6850c904f0d48666aade4266262cda16632efe5c8977fdee"), looks := false }, kinds := [], alts := [], laidByText := true, laidKinds := [.data, .pinned], laidTests := true, laidLooks := .later }
def FnExactEncodeReplyCardSaid : Prop := Claim7.holds Tryd.pinned (.plain (OpenSpec.ofChange fnExactEncodeReplySpec)) fnExactEncodeReplyCard

/-- THE TIED CARD OF 'laws.FnExactDecodeReply'. -/
def fnExactDecodeReplyCard : Claim7 := { stood := { row := fnExactDecodeReplyRow, standIns := [], harness := (true, "397b519ccdd0a21e6850c904f0d48666aade4266262cda16632efe5c8977fdee"), looks := false }, kinds := [], alts := [], laidByText := true, laidKinds := [.data, .pinned], laidTests := true, laidLooks := .later }
def FnExactDecodeReplyCardSaid : Prop := Claim7.holds Tryd.pinned (.plain (OpenSpec.ofChange fnExactDecodeReplySpec)) fnExactDecodeReplyCard

/-- THE TIED CARD OF 'laws.FnExactAnswerName'. -/
def fnExactAnswerNameCard : Claim7 := { stood := { row := fnExactAnswerNameRow, standIns := [], harness := (true, "397b519ccdd0a21e6850c904f0d48666aade4266262cda16632efe5c8977fdee"), looks := false }, kinds := [], alts := [], laidByText := true, laidKinds := [.data, .pinned], laidTests := true, laidLooks := .later }
def FnExactAnswerNameCardSaid : Prop := Claim7.holds Tryd.pinned (.plain (OpenSpec.ofChange fnExactAnswerNameSpec)) fnExactAnswerNameCard

/-- THE TIED CARD OF 'laws.FnExactShowSegment'. -/
def fnExactShowSegmentCard : Claim7 := { stood := { row := fnExactShowSegmentRow, standIns := [], harness := (true, "397b519ccdd0a21e6850c904f0d48666aade4266262cda16632efe5c8977fdee"), looks := false }, kinds := [], alts := [], laidByText := true, laidKinds := [.data, .data, .data], laidTests := true, laidLooks := .later }
def FnExactShowSegmentCardSaid : Prop := Claim7.holds Tryd.pinned (.plain (OpenSpec.ofChange fnExactShowSegmentSpec)) fnExactShowSegmentCard

/-- THE TIED CARD OF 'laws.FnExactShowReply'. -/
def fnExactShowReplyCard : Claim7 := { stood := { row := fnExactShowReplyRow, standIns := [], harness := (true, "397b519ccdd0a21e6850c904f0d48666aade4266262cda16632efe5c8977fdee"), looks := false }, kinds := [], alts := [], laidByText := true, laidKinds := [.data, .data, .data, .data, .pinned], laidTests := true, laidLooks := .later }
def FnExactShowReplyCardSaid : Prop := Claim7.holds Tryd.pinned (.plain (OpenSpec.ofChange fnExactShowReplySpec)) fnExactShowReplyCard

/-- THE TIED CARD OF 'laws.FnExactShowRequest'. -/
def fnExactShowRequestCard : Claim7 := { stood := { row := fnExactShowRequestRow, standIns := [], harness := (true, "397b519ccdd0a21e6850c904f0d48666aade4266262cda16632efe5c8977fdee"), looks := false }, kinds := [], alts := [], laidByText := true, laidKinds := [.data, .data, .data, .data, .pinned], laidTests := true, laidLooks := .later }
def FnExactShowRequestCardSaid : Prop := Claim7.holds Tryd.pinned (.plain (OpenSpec.ofChange fnExactShowRequestSpec)) fnExactShowRequestCard

/-- THE SECOND FORM's CARD OF 'laws.FnExactNameOK'. -/
def fnExactNameOKUptoCard : Claim7 := { stood := { row := fnExactNameOKUptoRow, standIns := [], harness := (true, "397b519ccdd0a21e6850c904f0d48666aade4266262cda16632efe5c8977fdee"), looks := false }, kinds := [], alts := [], laidByText := true, laidKinds := [.data, .pinned], laidTests := true, laidLooks := .later }
def FnExactNameOKUptoCardSaid : Prop := Claim7.holds Tryd.pinned (.plain (OpenSpec.upto fnExactNameOKSpec)) fnExactNameOKUptoCard

/-- THE SECOND FORM's CARD OF 'laws.FnExactEncodeQuery'. -/
def fnExactEncodeQueryUptoCard : Claim7 := { stood := { row := fnExactEncodeQueryUptoRow, standIns := [], harness := (true, "397b519ccdd0a21e6850c904f0d48666aade4266262cda16632efe5c8977fdee"), looks := false }, kinds := [], alts := [], laidByText := true, laidKinds := [.data, .pinned], laidTests := true, laidLooks := .later }
def FnExactEncodeQueryUptoCardSaid : Prop := Claim7.holds Tryd.pinned (.plain (OpenSpec.upto fnExactEncodeQuerySpec)) fnExactEncodeQueryUptoCard

/-- THE SECOND FORM's CARD OF 'laws.FnExactDecodeQuery'. -/
def fnExactDecodeQueryUptoCard : Claim7 := { stood := { row := fnExactDecodeQueryUptoRow, standIns := [], harness := (true, "397b519ccdd0a21e6850c904f0d48666aade4266262cda16632efe5c8977fdee"), looks := false }, kinds := [], alts := [], laidByText := true, laidKinds := [.data, .pinned], laidTests := true, laidLooks := .later }
def FnExactDecodeQueryUptoCardSaid : Prop := Claim7.holds Tryd.pinned (.plain (OpenSpec.upto fnExactDecodeQuerySpec)) fnExactDecodeQueryUptoCard

/-- THE SECOND FORM's CARD OF 'laws.FnExactEncodeReply'. -/
def fnExactEncodeReplyUptoCard : Claim7 := { stood := { row := fnExactEncodeReplyUptoRow, standIns := [], harness := (true, "397b519ccdd0a21e6850c904f0d48666aade4266262cda16632efe5c8977fdee"), looks := false }, kinds := [], alts := [], laidByText := true, laidKinds := [.data, .pinned], laidTests := true, laidLooks := .later }
def FnExactEncodeReplyUptoCardSaid : Prop := Claim7.holds Tryd.pinned (.plain (OpenSpec.upto fnExactEncodeReplySpec)) fnExactEncodeReplyUptoCard

/-- THE SECOND FORM's CARD OF 'laws.FnExactDecodeReply'. -/
def fnExactDecodeReplyUptoCard : Claim7 := { stood := { row := fnExactDecodeReplyUptoRow, standIns := [], harness := (true, "397b519ccdd0a21e6850c904f0d48666aade4266262cda16632efe5c8977fdee"), looks := false }, kinds := [], alts := [], laidByText := true, laidKinds := [.data, .pinned], laidTests := true, laidLooks := .later }
def FnExactDecodeReplyUptoCardSaid : Prop := Claim7.holds Tryd.pinned (.plain (OpenSpec.upto fnExactDecodeReplySpec)) fnExactDecodeReplyUptoCard

/-- THE SECOND FORM's CARD OF 'laws.FnExactAnswerName'. -/
def fnExactAnswerNameUptoCard : Claim7 := { stood := { row := fnExactAnswerNameUptoRow, standIns := [], harness := (true, "397b519ccdd0a21e6850c904f0d48666aade4266262cda16632efe5c8977fdee"), looks := false }, kinds := [], alts := [], laidByText := true, laidKinds := [.data, .pinned], laidTests := true, laidLooks := .later }
def FnExactAnswerNameUptoCardSaid : Prop := Claim7.holds Tryd.pinned (.plain (OpenSpec.upto fnExactAnswerNameSpec)) fnExactAnswerNameUptoCard

/-- THE SECOND FORM's CARD OF 'laws.FnExactShowSegment'. -/
def fnExactShowSegmentUptoCard : Claim7 := { stood := { row := fnExactShowSegmentUptoRow, standIns := [], harness := (true, "397b519ccdd0a21e6850c904f0d48666aade4266262cda16632efe5c8977fdee"), looks := false }, kinds := [], alts := [], laidByText := true, laidKinds := [.data, .data, .data], laidTests := true, laidLooks := .later }
def FnExactShowSegmentUptoCardSaid : Prop := Claim7.holds Tryd.pinned (.plain (OpenSpec.upto fnExactShowSegmentSpec)) fnExactShowSegmentUptoCard

/-- THE SECOND FORM's CARD OF 'laws.FnExactShowReply'. -/
def fnExactShowReplyUptoCard : Claim7 := { stood := { row := fnExactShowReplyUptoRow, standIns := [], harness := (true, "397b519ccdd0a21e6850c904f0d48666aade4266262cda16632efe5c8977fdee"), looks := false }, kinds := [], alts := [], laidByText := true, laidKinds := [.data, .data, .data, .data, .pinned], laidTests := true, laidLooks := .later }
def FnExactShowReplyUptoCardSaid : Prop := Claim7.holds Tryd.pinned (.plain (OpenSpec.upto fnExactShowReplySpec)) fnExactShowReplyUptoCard

/-- THE SECOND FORM's CARD OF 'laws.FnExactShowRequest'. -/
def fnExactShowRequestUptoCard : Claim7 := { stood := { row := fnExactShowRequestUptoRow, standIns := [], harness := (true, "397b519ccdd0a21e6850c904f0d48666aade4266262cda16632efe5c8977fdee"), looks := false }, kinds := [], alts := [], laidByText := true, laidKinds := [.data, .data, .data, .data, .pinned], laidTests := true, laidLooks := .later }
def FnExactShowRequestUptoCardSaid : Prop := Claim7.holds Tryd.pinned (.plain (OpenSpec.upto fnExactShowRequestSpec)) fnExactShowRequestUptoCard
end Rows
end Go.Proofs.YtcmcfmgabafljaaDoor
