/-
  DERIVED. GIVEN WITH THE SEED: THE CARDS: each row of YtfbjdeeomjfhkaaGreatDoorRows.lean that lists a variable, with what it lists TIED to the program's text (the seventh form; the later family's looks); each row that meets fmt, with fmt's text TOLD by the authors' own Lean function (tested against real Go, not proved from fmt's source: count such statements apart). THE CARD IS WHAT COUNTS. Prove the row's statement (the work); the ties are given (YtfbjdeeomjfhkaaGreatDoorTie.lean); close each card by the builder's one call (the guide's Derived/Test/ToyasCard.lean, 'card_holds'). Laid BY PROGRAM, IN A SANDBOX (cutbox-door.mjs). By AI agents, Wed Nov 11 2026. No macro, syntax, notation, axiom, sorry.
-/
import Derived.Test.YtfbjdeeomjfhkaaGreatDoorRows
import GoSem.ClaimSeven
namespace Go.Proofs.YtfbjdeeomjfhkaaGreatDoor
namespace Rows

/-- THE TIED CARD OF 'laws.FnCodeText'. -/
def fnCodeTextCard : Claim7 := { stood := { row := fnCodeTextRow, standIns := [], harness := (true, "85163d8baac663ca3f6ba335ba777b2ef4ba1e8f7e8f0d2c89b56919d3ea7d16"), looks := true }, kinds := [], alts := [], laidByText := true, laidKinds := [.data, .data, .data, .data, .sentinel, .sentinel, .pinned], laidTests := true, laidLooks := .later }
def FnCodeTextCardSaid : Prop := Claim7.holds Tryz.pinned (.plain (OpenSpec.ofChange fnCodeTextSpec)) fnCodeTextCard

/-- THE SECOND FORM's CARD OF 'laws.FnCodeText'. -/
def fnCodeTextUptoCard : Claim7 := { stood := { row := fnCodeTextUptoRow, standIns := [], harness := (true, "85163d8baac663ca3f6ba335ba777b2ef4ba1e8f7e8f0d2c89b56919d3ea7d16"), looks := true }, kinds := [], alts := [], laidByText := true, laidKinds := [.data, .data, .data, .data, .sentinel, .sentinel, .pinned], laidTests := true, laidLooks := .later }
def FnCodeTextUptoCardSaid : Prop := Claim7.holds Tryz.pinned (.plain (OpenSpec.upto fnCodeTextSpec)) fnCodeTextUptoCard
end Rows
end Go.Proofs.YtfbjdeeomjfhkaaGreatDoor
