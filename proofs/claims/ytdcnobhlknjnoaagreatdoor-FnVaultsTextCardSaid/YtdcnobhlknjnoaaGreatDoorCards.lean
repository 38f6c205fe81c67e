/-
  DERIVED. GIVEN WITH THE SEED: THE CARDS: each row of YtdcnobhlknjnoaaGreatDoorRows.lean that lists a variable, with what it lists TIED to the program's text (the seventh form; the later family's looks); each row that meets fmt, with fmt's text TOLD by the authors' own Lean function (tested against real Go, not proved from fmt's source: count such statements apart). THE CARD IS WHAT COUNTS. Prove the row's statement (the work); the ties are given (YtdcnobhlknjnoaaGreatDoorTie.lean); close each card by the builder's one call (the guide's Derived/Test/ToyasCard.lean, 'card_holds'). Laid BY PROGRAM, IN A SANDBOX (cutbox-door.mjs). By AI agents, Wed Nov 11 2026. No macro, syntax, notation, axiom, sorry.
-/
import Derived.Test.YtdcnobhlknjnoaaGreatDoorRows
import GoSem.ClaimSeven
namespace Go.Proofs.YtdcnobhlknjnoaaGreatDoor
namespace Rows

/-- THE TIED CARD OF 'laws.FnShelfShape'. -/
def fnShelfShapeCard : Claim7 := { stood := { row := fnShelfShapeRow, standIns := [], harness := (true, "54356b2f12819c174e28c2b34b3116cc3b1e966e9787b31501402c06f0ea126f"), looks := false }, kinds := [], alts := [], laidByText := true, laidKinds := [.listed, .data], laidTests := true, laidLooks := .later }
def FnShelfShapeCardSaid : Prop := Claim7.holds Tryz.pinned (.plain (OpenSpec.ofChange fnShelfShapeSpec)) fnShelfShapeCard

/-- THE TIED CARD OF 'laws.FnShapeText'. -/
def fnShapeTextCard : Claim7 := { stood := { row := fnShapeTextRow, standIns := [], harness := (true, "54356b2f12819c174e28c2b34b3116cc3b1e966e9787b31501402c06f0ea126f"), looks := false }, kinds := [], alts := [], laidByText := true, laidKinds := [.data, .data, .data], laidTests := true, laidLooks := .later }
def FnShapeTextCardSaid : Prop := Claim7.holds Tryz.pinned (.plain (OpenSpec.ofChange fnShapeTextSpec)) fnShapeTextCard

/-- THE TIED CARD OF 'laws.FnShapeSame'. -/
def fnShapeSameCard : Claim7 := { stood := { row := fnShapeSameRow, standIns := [], harness := (true, "54356b2f12819c174e28c2b34b3116cc3b1e966e9787b31501402c06f0ea126f"), looks := false }, kinds := [], alts := [], laidByText := true, laidKinds := [.data, .data, .data], laidTests := true, laidLooks := .later }
def FnShapeSameCardSaid : Prop := Claim7.holds Tryz.pinned (.plain (OpenSpec.ofChange fnShapeSameSpec)) fnShapeSameCard

/-- THE TIED CARD OF 'laws.FnVaultsText'. -/
def fnVaultsTextCard : Claim7 := { stood := { row := fnVaultsTextRow, standIns := [], harness := (true, "54356b2f12819c174e28c2b34b3116cc3b1e966e9787b31501402c06f0ea126f"), looks := false }, kinds := [], alts := [], laidByText := true, laidKinds := [.data, .data, .data], laidTests := true, laidLooks := .later }
def FnVaultsTextCardSaid : Prop := Claim7.holds Tryz.pinned (.plain (OpenSpec.ofChange fnVaultsTextSpec)) fnVaultsTextCard

/-- THE TIED CARD OF 'laws.FnShapeFirst'. -/
def fnShapeFirstCard : Claim7 := { stood := { row := fnShapeFirstRow, standIns := [], harness := (true, "54356b2f12819c174e28c2b34b3116cc3b1e966e9787b31501402c06f0ea126f"), looks := false }, kinds := [], alts := [], laidByText := true, laidKinds := [.listed, .data], laidTests := true, laidLooks := .later }
def FnShapeFirstCardSaid : Prop := Claim7.holds Tryz.pinned (.plain (OpenSpec.ofChange fnShapeFirstSpec)) fnShapeFirstCard

/-- THE SECOND FORM's CARD OF 'laws.FnShelfShape'. -/
def fnShelfShapeUptoCard : Claim7 := { stood := { row := fnShelfShapeUptoRow, standIns := [], harness := (true, "54356b2f12819c174e28c2b34b3116cc3b1e966e9787b31501402c06f0ea126f"), looks := false }, kinds := [], alts := [], laidByText := true, laidKinds := [.listed, .data], laidTests := true, laidLooks := .later }
def FnShelfShapeUptoCardSaid : Prop := Claim7.holds Tryz.pinned (.plain (OpenSpec.upto fnShelfShapeSpec)) fnShelfShapeUptoCard

/-- THE SECOND FORM's CARD OF 'laws.FnShapeText'. -/
def fnShapeTextUptoCard : Claim7 := { stood := { row := fnShapeTextUptoRow, standIns := [], harness := (true, "54356b2f12819c174e28c2b34b3116cc3b1e966e9787b31501402c06f0ea126f"), looks := false }, kinds := [], alts := [], laidByText := true, laidKinds := [.data, .data, .data], laidTests := true, laidLooks := .later }
def FnShapeTextUptoCardSaid : Prop := Claim7.holds Tryz.pinned (.plain (OpenSpec.upto fnShapeTextSpec)) fnShapeTextUptoCard

/-- THE SECOND FORM's CARD OF 'laws.FnShapeSame'. -/
def fnShapeSameUptoCard : Claim7 := { stood := { row := fnShapeSameUptoRow, standIns := [], harness := (true, "54356b2f12819c174e28c2b34b3116cc3b1e966e9787b31501402c06f0ea126f"), looks := false }, kinds := [], alts := [], laidByText := true, laidKinds := [.data, .data, .data], laidTests := true, laidLooks := .later }
def FnShapeSameUptoCardSaid : Prop := Claim7.holds Tryz.pinned (.plain (OpenSpec.upto fnShapeSameSpec)) fnShapeSameUptoCard

/-- THE SECOND FORM's CARD OF 'laws.FnVaultsText'. -/
def fnVaultsTextUptoCard : Claim7 := { stood := { row := fnVaultsTextUptoRow, standIns := [], harness := (true, "54356b2f12819c174e28c2b34b3116cc3b1e966e9787b31501402c06f0ea126f"), looks := false }, kinds := [], alts := [], laidByText := true, laidKinds := [.data, .data, .data], laidTests := true, laidLooks := .later }
def FnVaultsTextUptoCardSaid : Prop := Claim7.holds Tryz.pinned (.plain (OpenSpec.upto fnVaultsTextSpec)) fnVaultsTextUptoCard

/-- THE SECOND FORM's CARD OF 'laws.FnShapeFirst'. -/
def fnShapeFirstUptoCard : Claim7 := { stood := { row := fnShapeFirstUptoRow, standIns := [], harness := (true, "54356b2f12819c174e28c2b34b3116cc3b1e966e9787b31501402c06f0ea126f"), looks := false }, kinds := [], alts := [], laidByText := true, laidKinds := [.listed, .data], laidTests := true, laidLooks := .later }
def FnShapeFirstUptoCardSaid : Prop := Claim7.holds Tryz.pinned (.plain (OpenSpec.upto fnShapeFirstSpec)) fnShapeFirstUptoCard
end Rows
end Go.Proofs.YtdcnobhlknjnoaaGreatDoor
