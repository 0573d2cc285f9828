/-
  DERIVED. GIVEN WITH THE SEED: THE CARDS: each row of YtaoffieemecioaaDoorRows.lean that lists a variable, with what it lists TIED to the program's text (the seventh form; the later family's looks); each row that meets fmt, with fmt's text TOLD by the authors' own Lean function (tested against real Go, not proved from fmt's source: count such statements apart). THE CARD IS WHAT COUNTS. Prove the row's statement (the work); the ties are given (YtaoffieemecioaaDoorTie.lean); close each card by the builder's one call (the guide's Derived/Test/ToyasCard.lean, 'card_holds'). Laid BY PROGRAM, IN A SANDBOX (cutbox-door.mjs). By AI agents, Wed Nov 11 2026. No macro, syntax, notation, axiom, sorry.
-/
import Derived.Test.YtaoffieemecioaaDoorRows
import GoSem.ClaimSeven
namespace Go.Proofs.YtaoffieemecioaaDoor
namespace Rows

/-- THE TIED CARD OF 'laws.FnTickets'. -/
def fnTicketsCard : Claim7 := { stood := { row := fnTicketsRow, standIns := [], harness := (true, "a467b284ea134d4adcb666d48cb0b89a3e524ed6109f0d0511214e8649b6bc64"), looks := false }, kinds := [], alts := [], laidByText := true, laidKinds := [.data, .pinned], laidTests := true, laidLooks := .later }
def FnTicketsCardSaid : Prop := Claim7.holds Tryd.pinned (.plain (OpenSpec.ofChange fnTicketsSpec)) fnTicketsCard

/-- THE TIED CARD OF 'laws.FnSpoof'. -/
def fnSpoofCard : Claim7 := { stood := { row := fnSpoofRow, standIns := [], harness := (true, "a467b284ea134d4adcb666d48cb0b89a3e524ed6109f0d0511214e8649b6bc64"), looks := false }, kinds := [], alts := [], laidByText := true, laidKinds := [.data, .pinned], laidTests := true, laidLooks := .later }
def FnSpoofCardSaid : Prop := Claim7.holds Tryd.pinned (.plain (OpenSpec.ofChange fnSpoofSpec)) fnSpoofCard

/-- THE SECOND FORM's CARD OF 'laws.FnTickets'. -/
def fnTicketsUptoCard : Claim7 := { stood := { row := fnTicketsUptoRow, standIns := [], harness := (true, "a467b284ea134d4adcb666d48cb0b89a3e524ed6109f0d0511214e8649b6bc64"), looks := false }, kinds := [], alts := [], laidByText := true, laidKinds := [.data, .pinned], laidTests := true, laidLooks := .later }
def FnTicketsUptoCardSaid : Prop := Claim7.holds Tryd.pinned (.plain (OpenSpec.upto fnTicketsSpec)) fnTicketsUptoCard

/-- THE SECOND FORM's CARD OF 'laws.FnSpoof'. -/
def fnSpoofUptoCard : Claim7 := { stood := { row := fnSpoofUptoRow, standIns := [], harness := (true, "a467b284ea134d4adcb666d48cb0b89a3e524ed6109f0d0511214e8649b6bc64"), looks := false }, kinds := [], alts := [], laidByText := true, laidKinds := [.data, .pinned], laidTests := true, laidLooks := .later }
def FnSpoofUptoCardSaid : Prop := Claim7.holds Tryd.pinned (.plain (OpenSpec.upto fnSpoofSpec)) fnSpoofUptoCard
end Rows
end Go.Proofs.YtaoffieemecioaaDoor
