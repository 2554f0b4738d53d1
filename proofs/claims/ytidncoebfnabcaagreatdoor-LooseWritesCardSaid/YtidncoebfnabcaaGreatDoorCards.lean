/-
  DERIVED. GIVEN WITH THE SEED: THE CARDS: each row of YtidncoebfnabcaaGreatDoorRows.lean that lists a variable, with what it lists TIED to the program's text (the seventh form; the later family's looks); each row that meets fmt, with fmt's text TOLD by the authors' own Lean function (tested against real Go, not proved from fmt's source: count such statements apart). THE CARD IS WHAT COUNTS. Prove the row's statement (the work); the ties are given (YtidncoebfnabcaaGreatDoorTie.lean); close each card by the builder's one call (the guide's Derived/Test/ToyasCard.lean, 'card_holds'). Laid BY PROGRAM, IN A SANDBOX (cutbox-door.mjs). By AI agents, Wed Nov 11 2026. No macro, syntax, notation, axiom, sorry.
-/
import Derived.Test.YtidncoebfnabcaaGreatDoorRows
import GoSem.ClaimSeven
namespace Go.Proofs.YtidncoebfnabcaaGreatDoor
namespace Rows

/-- THE TIED CARD OF 'cartularylaw09.LooseWrites'. -/
def looseWritesCard : Claim7 := { stood := { row := looseWritesRow, standIns := [], harness := (true, "30de5a903c6471c2fb5f303b1dc7eea0399d2cdbf1fc61d89458a366ae3f0f8b"), looks := true }, kinds := [], alts := [], laidByText := true, laidKinds := [.data, .data, .data, .data, .sentinel, .sentinel, .pinned], laidTests := true, laidLooks := .later }
def LooseWritesCardSaid : Prop := Claim7.holds Tryz.pinned (.plain (OpenSpec.ofChange looseWritesSpec)) looseWritesCard

/-- THE SECOND FORM's CARD OF 'cartularylaw09.LooseWrites'. -/
def looseWritesUptoCard : Claim7 := { stood := { row := looseWritesUptoRow, standIns := [], harness := (true, "30de5a903c6471c2fb5f303b1dc7eea0399d2cdbf1fc61d89458a366ae3f0f8b"), looks := true }, kinds := [], alts := [], laidByText := true, laidKinds := [.data, .data, .data, .data, .sentinel, .sentinel, .pinned], laidTests := true, laidLooks := .later }
def LooseWritesUptoCardSaid : Prop := Claim7.holds Tryz.pinned (.plain (OpenSpec.upto looseWritesSpec)) looseWritesUptoCard
end Rows
end Go.Proofs.YtidncoebfnabcaaGreatDoor
