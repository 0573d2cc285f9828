/-
  DERIVED. GIVEN WITH THE SEED: THE CARDS: each row of YtdpaehdolhdjdaaGreatDoorRows.lean that lists a variable, with what it lists TIED to the program's text (the seventh form; the later family's looks); each row that meets fmt, with fmt's text TOLD by the authors' own Lean function (tested against real Go, not proved from fmt's source: count such statements apart). THE CARD IS WHAT COUNTS. Prove the row's statement (the work); the ties are given (YtdpaehdolhdjdaaGreatDoorTie.lean); close each card by the builder's one call (the guide's Derived/Test/ToyasCard.lean, 'card_holds'). Laid BY PROGRAM, IN A SANDBOX (cutbox-door.mjs). By AI agents, Wed Nov 11 2026. No macro, syntax, notation, axiom, sorry.
-/
import Derived.Test.YtdpaehdolhdjdaaGreatDoorRows
import GoSem.ClaimSeven
namespace Go.Proofs.YtdpaehdolhdjdaaGreatDoor
namespace Rows

/-- THE TIED CARD OF 'laws.FnExactShowNet'. -/
def fnExactShowNetCard : Claim7 := { stood := { row := fnExactShowNetRow, standIns := [], harness := (true, "c3d7bcf482596c6f74206337d90e5602978c2a907d930de74676fae79bf57660"), looks := false }, kinds := [], alts := [], laidByText := true, laidKinds := [.data, .data, .data, .data, .widerDeep, .widerDeep, .widerDeep, .mapped], laidTests := true, laidLooks := .later }
def FnExactShowNetCardSaid : Prop := Claim7.holds Tryz.pinned (.plain (OpenSpec.ofChange fnExactShowNetSpec)) fnExactShowNetCard

/-- THE TIED CARD OF 'laws.FnMessages'. -/
def fnMessagesCard : Claim7 := { stood := { row := fnMessagesRow, standIns := [], harness := (true, "c3d7bcf482596c6f74206337d90e5602978c2a907d930de74676fae79bf57660"), looks := false }, kinds := [], alts := [], laidByText := true, laidKinds := [.data, .data, .data, .data, .pinned], laidTests := true, laidLooks := .later }
def FnMessagesCardSaid : Prop := Claim7.holds Tryz.pinned (.plain (OpenSpec.ofChange fnMessagesSpec)) fnMessagesCard

/-- THE SECOND FORM's CARD OF 'laws.FnExactShowNet'. -/
def fnExactShowNetUptoCard : Claim7 := { stood := { row := fnExactShowNetUptoRow, standIns := [], harness := (true, "c3d7bcf482596c6f74206337d90e5602978c2a907d930de74676fae79bf57660"), looks := false }, kinds := [], alts := [], laidByText := true, laidKinds := [.data, .data, .data, .data, .widerDeep, .widerDeep, .widerDeep, .mapped], laidTests := true, laidLooks := .later }
def FnExactShowNetUptoCardSaid : Prop := Claim7.holds Tryz.pinned (.plain (OpenSpec.upto fnExactShowNetSpec)) fnExactShowNetUptoCard

/-- THE SECOND FORM's CARD OF 'laws.FnMessages'. -/
def fnMessagesUptoCard : Claim7 := { stood := { row := fnMessagesUptoRow, standIns := [], harness := (true, "c3d7bcf482596c6f74206337d90e5602978c2a907d930de74676fae79bf57660"), looks := false }, kinds := [], alts := [], laidByText := true, laidKinds := [.data, .data, .data, .data, .pinned], laidTests := true, laidLooks := .later }
def FnMessagesUptoCardSaid : Prop := Claim7.holds Tryz.pinned (.plain (OpenSpec.upto fnMessagesSpec)) fnMessagesUptoCard
end Rows
end Go.Proofs.YtdpaehdolhdjdaaGreatDoor
