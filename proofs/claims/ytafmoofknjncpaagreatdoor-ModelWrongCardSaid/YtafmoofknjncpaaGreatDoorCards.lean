/-
  DERIVED. GIVEN WITH THE SEED: THE CARDS: each row of YtafmoofknjncpaaGreatDoorRows.lean that lists a variable, with what it lists TIED to the program's text (the seventh form; the later family's looks); each row that meets fmt, with fmt's text TOLD by the authors' own Lean function (tested against real Go, not proved from fmt's source: count such statements apart). THE CARD IS WHAT COUNTS. Prove the row's statement (the work); the ties are given (YtafmoofknjncpaaGreatDoorTie.lean); close each card by the builder's one call (the guide's Derived/Test/ToyasCard.lean, 'card_holds'). Laid BY PROGRAM, IN A SANDBOX (cutbox-door.mjs). By AI agents, Wed Nov 11 2026. No macro, syntax, notation, axiom, sorry.
-/
import Derived.Test.YtafmoofknjncpaaGreatDoorRows
import GoSem.ClaimSeven
namespace Go.Proofs.YtafmoofknjncpaaGreatDoor
namespace Rows

/-- THE TIED CARD OF 'reparteelaw36.ModelWrong'. -/
def modelWrongCard : Claim7 := { stood := { row := modelWrongRow, standIns := [], harness := (true, "3e70e75e36ff179fb68a6a7d1760a2512060ba8ea3b55ddafc310f5dfd52ad8a"), looks := true }, kinds := [], alts := [], laidByText := true, laidKinds := [.data, .data, .widerDeep, .widerDeep, .data, .data, .data, .data, .data, .data, .sentinel, .sentinel, .pinned, .pinned, .pinned], laidTests := true, laidLooks := .later }
def ModelWrongCardSaid : Prop := Claim7.holds Tryz.pinned (.plain (OpenSpec.ofChange modelWrongSpec)) modelWrongCard

/-- THE SECOND FORM's CARD OF 'reparteelaw36.ModelWrong'. -/
def modelWrongUptoCard : Claim7 := { stood := { row := modelWrongUptoRow, standIns := [], harness := (true, "3e70e75e36ff179fb68a6a7d1760a2512060ba8ea3b55ddafc310f5dfd52ad8a"), looks := true }, kinds := [], alts := [], laidByText := true, laidKinds := [.data, .data, .widerDeep, .widerDeep, .data, .data, .data, .data, .data, .data, .sentinel, .sentinel, .pinned, .pinned, .pinned], laidTests := true, laidLooks := .later }
def ModelWrongUptoCardSaid : Prop := Claim7.holds Tryz.pinned (.plain (OpenSpec.upto modelWrongSpec)) modelWrongUptoCard
end Rows
end Go.Proofs.YtafmoofknjncpaaGreatDoor
