/-
  DERIVED. GIVEN WITH THE SEED: THE CARDS: each row of YtkembmbgkbonmaaGreatDoorRows.lean that lists a variable, with what it lists TIED to the program's text (the seventh form; the later family's looks); each row that meets fmt, with fmt's text TOLD by the authors' own Lean function (tested against real Go, not proved from fmt's source: count such statements apart). THE CARD IS WHAT COUNTS. Prove the row's statement (the work); the ties are given (YtkembmbgkbonmaaGreatDoorTie.lean); close each card by the builder's one call (the guide's Derived/Test/ToyasCard.lean, 'card_holds'). Laid BY PROGRAM, IN A SANDBOX (cutbox-door.mjs). By AI agents, Wed Nov 11 2026. No macro, syntax, notation, axiom, sorry.
-/
import Derived.Test.YtkembmbgkbonmaaGreatDoorRows
import GoSem.ClaimSeven
namespace Go.Proofs.YtkembmbgkbonmaaGreatDoor
namespace Rows

/-- THE TIED CARD OF 'laws.FnExactPanBoard'. -/
def fnExactPanBoardCard : Claim7 := { stood := { row := fnExactPanBoardRow, standIns := [], harness := (true, "c60883512a54544e69d1649839888873baae06b1637a45f68906b0300156a7ca"), looks := false }, kinds := [], alts := [], laidByText := true, laidKinds := [.data, .data, .data], laidTests := true, laidLooks := .later }
def FnExactPanBoardCardSaid : Prop := Claim7.holds Tryz.pinned (.plain (OpenSpec.ofChange fnExactPanBoardSpec)) fnExactPanBoardCard

/-- THE SECOND FORM's CARD OF 'laws.FnExactPanBoard'. -/
def fnExactPanBoardUptoCard : Claim7 := { stood := { row := fnExactPanBoardUptoRow, standIns := [], harness := (true, "c60883512a54544e69d1649839888873baae06b1637a45f68906b0300156a7ca"), looks := false }, kinds := [], alts := [], laidByText := true, laidKinds := [.data, .data, .data], laidTests := true, laidLooks := .later }
def FnExactPanBoardUptoCardSaid : Prop := Claim7.holds Tryz.pinned (.plain (OpenSpec.upto fnExactPanBoardSpec)) fnExactPanBoardUptoCard
end Rows
end Go.Proofs.YtkembmbgkbonmaaGreatDoor
