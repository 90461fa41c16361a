/-
  DERIVED. GIVEN WITH THE SEED: THE CARDS: each row of YtipadliffadhkaaDoorRows.lean that lists a variable, with what it lists TIED to the program's text (the seventh form; the later family's looks); each row that meets fmt, with fmt's text TOLD by the authors' own Lean function (tested against real Go, not proved from fmt's source: count such statements apart). THE CARD IS WHAT COUNTS. Prove the row's statement (the work); the ties are given (YtipadliffadhkaaDoorTie.lean); close each card by the builder's one call (the guide's Derived/Test/ToyasCard.lean, 'card_holds'). Laid BY PROGRAM, IN A SANDBOX (cutbox-door.mjs). By AI agents, Wed Nov 11 2026. No macro, syntax, notation, axiom, sorry.
-/
import Derived.Test.YtipadliffadhkaaDoorRows
import GoSem.ClaimSeven
namespace Go.Proofs.YtipadliffadhkaaDoor
namespace Rows

/-- THE TIED CARD OF 'laws.FnExactPanWrite'. -/
def fnExactPanWriteCard : Claim7 := { stood := { row := fnExactPanWriteRow, standIns := [], harness := (true, "eac3333b658b2ee4130184e0796eef3d4adddeb9eb6e519f2dba3929be95c7b7"), looks := false }, kinds := [], alts := [], laidByText := true, laidKinds := [.data, .data, .data], laidTests := true, laidLooks := .later }
def FnExactPanWriteCardSaid : Prop := Claim7.holds Tryd.pinned (.plain (OpenSpec.ofChange fnExactPanWriteSpec)) fnExactPanWriteCard

/-- THE TIED CARD OF 'laws.FnExactPanRead'. -/
def fnExactPanReadCard : Claim7 := { stood := { row := fnExactPanReadRow, standIns := [], harness := (true, "eac3333b658b2ee4130184e0796eef3d4adddeb9eb6e519f2dba3929be95c7b7"), looks := false }, kinds := [], alts := [], laidByText := true, laidKinds := [.data, .pinned], laidTests := true, laidLooks := .later }
def FnExactPanReadCardSaid : Prop := Claim7.holds Tryd.pinned (.plain (OpenSpec.ofChange fnExactPanReadSpec)) fnExactPanReadCard

/-- THE TIED CARD OF 'laws.FnExactHistOk'. -/
def fnExactHistOkCard : Claim7 := { stood := { row := fnExactHistOkRow, standIns := [], harness := (true, "eac3333b658b2ee4130184e0796eef3d4adddeb9eb6e519f2dba3929be95c7b7"), looks := false }, kinds := [], alts := [], laidByText := true, laidKinds := [.data, .data, .data], laidTests := true, laidLooks := .later }
def FnExactHistOkCardSaid : Prop := Claim7.holds Tryd.pinned (.plain (OpenSpec.ofChange fnExactHistOkSpec)) fnExactHistOkCard

/-- THE TIED CARD OF 'laws.FnExactHistOrder'. -/
def fnExactHistOrderCard : Claim7 := { stood := { row := fnExactHistOrderRow, standIns := [], harness := (true, "eac3333b658b2ee4130184e0796eef3d4adddeb9eb6e519f2dba3929be95c7b7"), looks := false }, kinds := [], alts := [], laidByText := true, laidKinds := [.data, .data, .data], laidTests := true, laidLooks := .later }
def FnExactHistOrderCardSaid : Prop := Claim7.holds Tryd.pinned (.plain (OpenSpec.ofChange fnExactHistOrderSpec)) fnExactHistOrderCard

/-- THE SECOND FORM's CARD OF 'laws.FnExactPanWrite'. -/
def fnExactPanWriteUptoCard : Claim7 := { stood := { row := fnExactPanWriteUptoRow, standIns := [], harness := (true, "eac3333b658b2ee4130184e0796eef3d4adddeb9eb6e519f2dba3929be95c7b7"), looks := false }, kinds := [], alts := [], laidByText := true, laidKinds := [.data, .data, .data], laidTests := true, laidLooks := .later }
def FnExactPanWriteUptoCardSaid : Prop := Claim7.holds Tryd.pinned (.plain (OpenSpec.upto fnExactPanWriteSpec)) fnExactPanWriteUptoCard

/-- THE SECOND FORM's CARD OF 'laws.FnExactPanRead'. -/
def fnExactPanReadUptoCard : Claim7 := { stood := { row := fnExactPanReadUptoRow, standIns := [], harness := (true, "eac3333b658b2ee4130184e0796eef3d4adddeb9eb6e519f2dba3929be95c7b7"), looks := false }, kinds := [], alts := [], laidByText := true, laidKinds := [.data, .pinned], laidTests := true, laidLooks := .later }
def FnExactPanReadUptoCardSaid : Prop := Claim7.holds Tryd.pinned (.plain (OpenSpec.upto fnExactPanReadSpec)) fnExactPanReadUptoCard

/-- THE SECOND FORM's CARD OF 'laws.FnExactHistOk'. -/
def fnExactHistOkUptoCard : Claim7 := { stood := { row := fnExactHistOkUptoRow, standIns := [], harness := (true, "eac3333b658b2ee4130184e0796eef3d4adddeb9eb6e519f2dba3929be95c7b7"), looks := false }, kinds := [], alts := [], laidByText := true, laidKinds := [.data, .data, .data], laidTests := true, laidLooks := .later }
def FnExactHistOkUptoCardSaid : Prop := Claim7.holds Tryd.pinned (.plain (OpenSpec.upto fnExactHistOkSpec)) fnExactHistOkUptoCard

/-- THE SECOND FORM's CARD OF 'laws.FnExactHistOrder'. -/
def fnExactHistOrderUptoCard : Claim7 := { stood := { row := fnExactHistOrderUptoRow, standIns := [], harness := (true, "eac3333b658b2ee4130184e0796eef3d4adddeb9eb6e519f2dba3929be95c7b7"), looks := false }, kinds := [], alts := [], laidByText := true, laidKinds := [.data, .data, .data], laidTests := true, laidLooks := .later }
def FnExactHistOrderUptoCardSaid : Prop := Claim7.holds Tryd.pinned (.plain (OpenSpec.upto fnExactHistOrderSpec)) fnExactHistOrderUptoCard
end Rows
end Go.Proofs.YtipadliffadhkaaDoor
