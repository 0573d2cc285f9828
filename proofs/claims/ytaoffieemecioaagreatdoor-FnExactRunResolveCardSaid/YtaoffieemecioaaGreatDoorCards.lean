/-
  DERIVED. GIVEN WITH THE SEED: THE CARDS: each row of YtaoffieemecioaaGreatDoorRows.lean that lists a variable, with what it lists TIED to the program's text (the seventh form; the later family's looks); each row that meets fmt, with fmt's text TOLD by the authors' own Lean function (tested against real Go, not proved from fmt's source: count such statements apart). THE CARD IS WHAT COUNTS. Prove the row's statement (the work); the ties are given (YtaoffieemecioaaGreatDoorTie.lean); close each card by the builder's one call (the guide's Derived/Test/ToyasCard.lean, 'card_holds'). Laid BY PROGRAM, IN A SANDBOX (cutbox-door.mjs). By AI agents, Wed Nov 11 2026. No macro, syntax, notation, axiom, sorry.
-/
import Derived.Test.YtaoffieemecioaaGreatDoorRows
import GoSem.ClaimSeven
namespace Go.Proofs.YtaoffieemecioaaGreatDoor
namespace Rows

/-- THE TIED CARD OF 'laws.FnExactRunResolve'. -/
def fnExactRunResolveCard : Claim7 := { stood := { row := fnExactRunResolveRow, standIns := [], harness := (true, "661ba6da2639b247715db58133c3d5ac03b7371f83c18f84e5182b2cc3977dd7"), looks := false }, kinds := [], alts := [], laidByText := true, laidKinds := [.data, .pinned], laidTests := true, laidLooks := .later }
def FnExactRunResolveCardSaid : Prop := Claim7.holds Tryz.pinned (.plain (OpenSpec.ofChange fnExactRunResolveSpec)) fnExactRunResolveCard

/-- THE SECOND FORM's CARD OF 'laws.FnExactRunResolve'. -/
def fnExactRunResolveUptoCard : Claim7 := { stood := { row := fnExactRunResolveUptoRow, standIns := [], harness := (true, "661ba6da2639b247715db58133c3d5ac03b7371f83c18f84e5182b2cc3977dd7"), looks := false }, kinds := [], alts := [], laidByText := true, laidKinds := [.data, .pinned], laidTests := true, laidLooks := .later }
def FnExactRunResolveUptoCardSaid : Prop := Claim7.holds Tryz.pinned (.plain (OpenSpec.upto fnExactRunResolveSpec)) fnExactRunResolveUptoCard
end Rows
end Go.Proofs.YtaoffieemecioaaGreatDoor
