/-
  DERIVED. GIVEN WITH THE SEED: THE CARDS: each row of YtgpigfcagppohaaGreatDoorRows.lean that lists a variable, with what it lists TIED to the program's text (the seventh form; the later family's looks); each row that meets fmt, with fmt's text TOLD by the authors' own Lean function (tested against real Go, not proved from fmt's source: count such statements apart). THE CARD IS WHAT COUNTS. Prove the row's statement (the work); the ties are given (YtgpigfcagppohaaGreatDoorTie.lean); close each card by the builder's one call (the guide's Derived/Test/ToyasCard.lean, 'card_holds'). Laid BY PROGRAM, IN A SANDBOX (cutbox-door.mjs). By AI agents, Wed Nov 11 2026. No macro, syntax, notation, axiom, sorry.
-/
import Derived.Test.YtgpigfcagppohaaGreatDoorRows
import GoSem.ClaimSeven
namespace Go.Proofs.YtgpigfcagppohaaGreatDoor
namespace Rows

/-- THE TIED CARD OF 'merlonlaw05.CheckFlows'. -/
def checkFlowsCard : Claim7 := { stood := { row := checkFlowsRow, standIns := [], harness := (true, "c63b4bed0d00ffcd55c8b572361a0828c2b8495a8bb903e5b9ffd1234f9a7e55"), looks := false }, kinds := [], alts := [], laidByText := true, laidKinds := [.listed, .data], laidTests := true, laidLooks := .later }
def CheckFlowsCardSaid : Prop := Claim7.holds Tryz.pinned (.plain (OpenSpec.ofChange checkFlowsSpec)) checkFlowsCard

/-- THE TIED CARD OF 'merlonlaw05.CheckScopes'. -/
def checkScopesCard : Claim7 := { stood := { row := checkScopesRow, standIns := [], harness := (true, "c63b4bed0d00ffcd55c8b572361a0828c2b8495a8bb903e5b9ffd1234f9a7e55"), looks := false }, kinds := [], alts := [], laidByText := true, laidKinds := [.listed, .data], laidTests := true, laidLooks := .later }
def CheckScopesCardSaid : Prop := Claim7.holds Tryz.pinned (.plain (OpenSpec.ofChange checkScopesSpec)) checkScopesCard

/-- THE TIED CARD OF 'merlonlaw05.CheckLimits'. -/
def checkLimitsCard : Claim7 := { stood := { row := checkLimitsRow, standIns := [], harness := (true, "c63b4bed0d00ffcd55c8b572361a0828c2b8495a8bb903e5b9ffd1234f9a7e55"), looks := false }, kinds := [], alts := [], laidByText := true, laidKinds := [.listed, .data], laidTests := true, laidLooks := .later }
def CheckLimitsCardSaid : Prop := Claim7.holds Tryz.pinned (.plain (OpenSpec.ofChange checkLimitsSpec)) checkLimitsCard

/-- THE TIED CARD OF 'merlonlaw07.WalkInputs'. -/
def walkInputsCard : Claim7 := { stood := { row := walkInputsRow, standIns := [], harness := (true, "c63b4bed0d00ffcd55c8b572361a0828c2b8495a8bb903e5b9ffd1234f9a7e55"), looks := false }, kinds := [], alts := [], laidByText := true, laidKinds := [.listed, .data], laidTests := true, laidLooks := .later }
def WalkInputsCardSaid : Prop := Claim7.holds Tryz.pinned (.plain (OpenSpec.ofChange walkInputsSpec)) walkInputsCard

/-- THE SECOND FORM's CARD OF 'merlonlaw05.CheckFlows'. -/
def checkFlowsUptoCard : Claim7 := { stood := { row := checkFlowsUptoRow, standIns := [], harness := (true, "c63b4bed0d00ffcd55c8b572361a0828c2b8495a8bb903e5b9ffd1234f9a7e55"), looks := false }, kinds := [], alts := [], laidByText := true, laidKinds := [.listed, .data], laidTests := true, laidLooks := .later }
def CheckFlowsUptoCardSaid : Prop := Claim7.holds Tryz.pinned (.plain (OpenSpec.upto checkFlowsSpec)) checkFlowsUptoCard

/-- THE SECOND FORM's CARD OF 'merlonlaw05.CheckScopes'. -/
def checkScopesUptoCard : Claim7 := { stood := { row := checkScopesUptoRow, standIns := [], harness := (true, "c63b4bed0d00ffcd55c8b572361a0828c2b8495a8bb903e5b9ffd1234f9a7e55"), looks := false }, kinds := [], alts := [], laidByText := true, laidKinds := [.listed, .data], laidTests := true, laidLooks := .later }
def CheckScopesUptoCardSaid : Prop := Claim7.holds Tryz.pinned (.plain (OpenSpec.upto checkScopesSpec)) checkScopesUptoCard

/-- THE SECOND FORM's CARD OF 'merlonlaw05.CheckLimits'. -/
def checkLimitsUptoCard : Claim7 := { stood := { row := checkLimitsUptoRow, standIns := [], harness := (true, "c63b4bed0d00ffcd55c8b572361a0828c2b8495a8bb903e5b9ffd1234f9a7e55"), looks := false }, kinds := [], alts := [], laidByText := true, laidKinds := [.listed, .data], laidTests := true, laidLooks := .later }
def CheckLimitsUptoCardSaid : Prop := Claim7.holds Tryz.pinned (.plain (OpenSpec.upto checkLimitsSpec)) checkLimitsUptoCard

/-- THE SECOND FORM's CARD OF 'merlonlaw07.WalkInputs'. -/
def walkInputsUptoCard : Claim7 := { stood := { row := walkInputsUptoRow, standIns := [], harness := (true, "c63b4bed0d00ffcd55c8b572361a0828c2b8495a8bb903e5b9ffd1234f9a7e55"), looks := false }, kinds := [], alts := [], laidByText := true, laidKinds := [.listed, .data], laidTests := true, laidLooks := .later }
def WalkInputsUptoCardSaid : Prop := Claim7.holds Tryz.pinned (.plain (OpenSpec.upto walkInputsSpec)) walkInputsUptoCard
end Rows
end Go.Proofs.YtgpigfcagppohaaGreatDoor
