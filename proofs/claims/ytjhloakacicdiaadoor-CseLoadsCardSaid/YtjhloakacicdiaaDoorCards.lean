/-
  DERIVED. GIVEN WITH THE SEED: THE CARDS: each row of YtjhloakacicdiaaDoorRows.lean that lists a variable, with what it lists TIED to the program's text (the seventh form; the later family's looks); each row that meets fmt, with fmt's text TOLD by the authors' own Lean function (tested against real Go, not proved from fmt's source: count such statements apart). THE CARD IS WHAT COUNTS. Prove the row's statement (the work); the ties are given (YtjhloakacicdiaaDoorTie.lean); close each card by the builder's one call (the guide's Derived/Test/ToyasCard.lean, 'card_holds'). Laid BY PROGRAM, IN A SANDBOX (cutbox-door.mjs). By AI agents, Wed Nov 11 2026. No macro, syntax, notation, axiom, sorry.
-/
import Derived.Test.YtjhloakacicdiaaDoorRows
import GoSem.ClaimSeven
namespace Go.Proofs.YtjhloakacicdiaaDoor
namespace Rows

/-- THE TIED CARD OF 'merlonlaw14.DeadCode'. -/
def deadCodeCard : Claim7 := { stood := { row := deadCodeRow, standIns := [], harness := (true, "4301043a9d7481003906c8a6f3ade470f248aed11d6693d68c136400572a01d6"), looks := false }, kinds := [], alts := [], laidByText := true, laidKinds := [.data, .data, .data, .data], laidTests := true, laidLooks := .later }
def DeadCodeCardSaid : Prop := Claim7.holds Tryd.pinned (.plain (OpenSpec.ofChange deadCodeSpec)) deadCodeCard

/-- THE TIED CARD OF 'merlonlaw14.DeadAgain'. -/
def deadAgainCard : Claim7 := { stood := { row := deadAgainRow, standIns := [], harness := (true, "4301043a9d7481003906c8a6f3ade470f248aed11d6693d68c136400572a01d6"), looks := false }, kinds := [], alts := [], laidByText := true, laidKinds := [.data, .data, .data, .data], laidTests := true, laidLooks := .later }
def DeadAgainCardSaid : Prop := Claim7.holds Tryd.pinned (.plain (OpenSpec.ofChange deadAgainSpec)) deadAgainCard

/-- THE TIED CARD OF 'merlonlaw13.CseLoads'. -/
def cseLoadsCard : Claim7 := { stood := { row := cseLoadsRow, standIns := [], harness := (true, "4301043a9d7481003906c8a6f3ade470f248aed11d6693d68c136400572a01d6"), looks := false }, kinds := [], alts := [], laidByText := true, laidKinds := [.data, .data, .data, .data], laidTests := true, laidLooks := .later }
def CseLoadsCardSaid : Prop := Claim7.holds Tryd.pinned (.plain (OpenSpec.ofChange cseLoadsSpec)) cseLoadsCard

/-- THE TIED CARD OF 'merlonlaw13.CseKeeps'. -/
def cseKeepsCard : Claim7 := { stood := { row := cseKeepsRow, standIns := [], harness := (true, "4301043a9d7481003906c8a6f3ade470f248aed11d6693d68c136400572a01d6"), looks := false }, kinds := [], alts := [], laidByText := true, laidKinds := [.data, .data, .data, .data], laidTests := true, laidLooks := .later }
def CseKeepsCardSaid : Prop := Claim7.holds Tryd.pinned (.plain (OpenSpec.ofChange cseKeepsSpec)) cseKeepsCard

/-- THE TIED CARD OF 'merlonlaw12.FoldKeeps'. -/
def foldKeepsCard : Claim7 := { stood := { row := foldKeepsRow, standIns := [], harness := (true, "4301043a9d7481003906c8a6f3ade470f248aed11d6693d68c136400572a01d6"), looks := false }, kinds := [], alts := [], laidByText := true, laidKinds := [.data, .data, .data, .data], laidTests := true, laidLooks := .later }
def FoldKeepsCardSaid : Prop := Claim7.holds Tryd.pinned (.plain (OpenSpec.ofChange foldKeepsSpec)) foldKeepsCard

/-- THE SECOND FORM's CARD OF 'merlonlaw14.DeadCode'. -/
def deadCodeUptoCard : Claim7 := { stood := { row := deadCodeUptoRow, standIns := [], harness := (true, "4301043a9d7481003906c8a6f3ade470f248aed11d6693d68c136400572a01d6"), looks := false }, kinds := [], alts := [], laidByText := true, laidKinds := [.data, .data, .data, .data], laidTests := true, laidLooks := .later }
def DeadCodeUptoCardSaid : Prop := Claim7.holds Tryd.pinned (.plain (OpenSpec.upto deadCodeSpec)) deadCodeUptoCard

/-- THE SECOND FORM's CARD OF 'merlonlaw14.DeadAgain'. -/
def deadAgainUptoCard : Claim7 := { stood := { row := deadAgainUptoRow, standIns := [], harness := (true, "4301043a9d7481003906c8a6f3ade470f248aed11d6693d68c136400572a01d6"), looks := false }, kinds := [], alts := [], laidByText := true, laidKinds := [.data, .data, .data, .data], laidTests := true, laidLooks := .later }
def DeadAgainUptoCardSaid : Prop := Claim7.holds Tryd.pinned (.plain (OpenSpec.upto deadAgainSpec)) deadAgainUptoCard

/-- THE SECOND FORM's CARD OF 'merlonlaw13.CseLoads'. -/
def cseLoadsUptoCard : Claim7 := { stood := { row := cseLoadsUptoRow, standIns := [], harness := (true, "4301043a9d7481003906c8a6f3ade470f248aed11d6693d68c136400572a01d6"), looks := false }, kinds := [], alts := [], laidByText := true, laidKinds := [.data, .data, .data, .data], laidTests := true, laidLooks := .later }
def CseLoadsUptoCardSaid : Prop := Claim7.holds Tryd.pinned (.plain (OpenSpec.upto cseLoadsSpec)) cseLoadsUptoCard

/-- THE SECOND FORM's CARD OF 'merlonlaw13.CseKeeps'. -/
def cseKeepsUptoCard : Claim7 := { stood := { row := cseKeepsUptoRow, standIns := [], harness := (true, "4301043a9d7481003906c8a6f3ade470f248aed11d6693d68c136400572a01d6"), looks := false }, kinds := [], alts := [], laidByText := true, laidKinds := [.data, .data, .data, .data], laidTests := true, laidLooks := .later }
def CseKeepsUptoCardSaid : Prop := Claim7.holds Tryd.pinned (.plain (OpenSpec.upto cseKeepsSpec)) cseKeepsUptoCard

/-- THE SECOND FORM's CARD OF 'merlonlaw12.FoldKeeps'. -/
def foldKeepsUptoCard : Claim7 := { stood := { row := foldKeepsUptoRow, standIns := [], harness := (true, "4301043a9d7481003906c8a6f3ade470f248aed11d6693d68c136400572a01d6"), looks := false }, kinds := [], alts := [], laidByText := true, laidKinds := [.data, .data, .data, .data], laidTests := true, laidLooks := .later }
def FoldKeepsUptoCardSaid : Prop := Claim7.holds Tryd.pinned (.plain (OpenSpec.upto foldKeepsSpec)) foldKeepsUptoCard
end Rows
end Go.Proofs.YtjhloakacicdiaaDoor
