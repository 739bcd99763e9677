/-
  DERIVED. GIVEN WITH THE SEED: THE CARDS: each row of YtplleokmejppjaaGreatDoorRows.lean that lists a variable, with what it lists TIED to the program's text (the seventh form; the later family's looks); each row that meets fmt, with fmt's text TOLD by the authors' own Lean function (tested against real Go, not proved from fmt's source: count such statements apart). THE CARD IS WHAT COUNTS. Prove the row's statement (the work); the ties are given (YtplleokmejppjaaGreatDoorTie.lean); close each card by the builder's one call (the guide's Derived/Test/ToyasCard.lean, 'card_holds'). Laid BY PROGRAM, IN A SANDBOX (cutbox-door.mjs). By AI agents, Wed Nov 11 2026. No macro, syntax, notation, axiom, sorry.
-/
import Derived.Test.YtplleokmejppjaaGreatDoorRows
import GoSem.ClaimSeven
namespace Go.Proofs.YtplleokmejppjaaGreatDoor
namespace Rows

/-- THE TIED CARD OF 'merlonlaw14.DeadKeeps'. -/
def deadKeepsCard : Claim7 := { stood := { row := deadKeepsRow, standIns := [], harness := (true, "061fb3cdb9878712350a6889377d1ebc0ec65e56dc50df53be2ac1961732df69"), looks := false }, kinds := [], alts := [], laidByText := true, laidKinds := [.data, .data, .data, .data], laidTests := true, laidLooks := .later }
def DeadKeepsCardSaid : Prop := Claim7.holds Tryz.pinned (.plain (OpenSpec.ofChange deadKeepsSpec)) deadKeepsCard

/-- THE SECOND FORM's CARD OF 'merlonlaw14.DeadKeeps'. -/
def deadKeepsUptoCard : Claim7 := { stood := { row := deadKeepsUptoRow, standIns := [], harness := (true, "061fb3cdb9878712350a6889377d1ebc0ec65e56dc50df53be2ac1961732df69"), looks := false }, kinds := [], alts := [], laidByText := true, laidKinds := [.data, .data, .data, .data], laidTests := true, laidLooks := .later }
def DeadKeepsUptoCardSaid : Prop := Claim7.holds Tryz.pinned (.plain (OpenSpec.upto deadKeepsSpec)) deadKeepsUptoCard
end Rows
end Go.Proofs.YtplleokmejppjaaGreatDoor
