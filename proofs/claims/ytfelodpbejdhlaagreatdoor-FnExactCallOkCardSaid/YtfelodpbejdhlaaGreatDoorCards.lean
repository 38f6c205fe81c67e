/-
  DERIVED. GIVEN WITH THE SEED: THE CARDS: each row of YtfelodpbejdhlaaGreatDoorRows.lean that lists a variable, with what it lists TIED to the program's text (the seventh form; the later family's looks); each row that meets fmt, with fmt's text TOLD by the authors' own Lean function (tested against real Go, not proved from fmt's source: count such statements apart). THE CARD IS WHAT COUNTS. Prove the row's statement (the work); the ties are given (YtfelodpbejdhlaaGreatDoorTie.lean); close each card by the builder's one call (the guide's Derived/Test/ToyasCard.lean, 'card_holds'). Laid BY PROGRAM, IN A SANDBOX (cutbox-door.mjs). By AI agents, Wed Nov 11 2026. No macro, syntax, notation, axiom, sorry.
-/
import Derived.Test.YtfelodpbejdhlaaGreatDoorRows
import GoSem.ClaimSeven
namespace Go.Proofs.YtfelodpbejdhlaaGreatDoor
namespace Rows

/-- THE TIED CARD OF 'laws.FnExactCallOk'. -/
def fnExactCallOkCard : Claim7 := { stood := { row := fnExactCallOkRow, standIns := [], harness := (true, "c2f25fc1f73891477f9c72c14a1e7f9f746fddebcbc2a90c9450288705ca1270"), looks := false }, kinds := [], alts := [], laidByText := true, laidKinds := [.listed, .data], laidTests := true, laidLooks := .later }
def FnExactCallOkCardSaid : Prop := Claim7.holds Tryz.pinned (.plain (OpenSpec.ofChange fnExactCallOkSpec)) fnExactCallOkCard

/-- THE SECOND FORM's CARD OF 'laws.FnExactCallOk'. -/
def fnExactCallOkUptoCard : Claim7 := { stood := { row := fnExactCallOkUptoRow, standIns := [], harness := (true, "c2f25fc1f73891477f9c72c14a1e7f9f746fddebcbc2a90c9450288705ca1270"), looks := false }, kinds := [], alts := [], laidByText := true, laidKinds := [.listed, .data], laidTests := true, laidLooks := .later }
def FnExactCallOkUptoCardSaid : Prop := Claim7.holds Tryz.pinned (.plain (OpenSpec.upto fnExactCallOkSpec)) fnExactCallOkUptoCard
end Rows
end Go.Proofs.YtfelodpbejdhlaaGreatDoor
