/-
  DERIVED. GIVEN WITH THE SEED: THE CARDS: each row of YtiaohbbafaaibabDoorRows.lean that lists a variable, with what it lists TIED to the program's text (the seventh form; the later family's looks); each row that meets fmt, with fmt's text TOLD by the authors' own Lean function (tested against real Go, not proved from fmt's source: count such statements apart). THE CARD IS WHAT COUNTS. Prove the row's statement (the work); the ties are given (YtiaohbbafaaibabDoorTie.lean); close each card by the builder's one call (the guide's Derived/Test/ToyasCard.lean, 'card_holds'). Laid BY PROGRAM, IN A SANDBOX (cutbox-door.mjs). By AI agents, Wed Nov 11 2026. No macro, syntax, notation, axiom, sorry.
-/
import Derived.Test.YtiaohbbafaaibabDoorRows
import GoSem.ClaimSeven
namespace Go.Proofs.YtiaohbbafaaibabDoor
namespace Rows

/-- THE TIED CARD OF 'pleatlaw04.WireRound'. -/
def wireRoundCard : Claim7 := { stood := { row := wireRoundRow, standIns := [], harness := (true, "fc1b70d6063f53b9b5e5f21b3783f59681bde73191ec1fbdedbd2b1acac77325"), looks := true }, kinds := [], alts := [], laidByText := true, laidKinds := [.handle], laidTests := true, laidLooks := .later }
def WireRoundCardSaid : Prop := Claim7.holds Tryd.pinned (.plain (OpenSpec.ofChange wireRoundSpec)) wireRoundCard

/-- THE TIED CARD OF 'pleatlaw09.LinkStands'. -/
def linkStandsCard : Claim7 := { stood := { row := linkStandsRow, standIns := [], harness := (true, "fc1b70d6063f53b9b5e5f21b3783f59681bde73191ec1fbdedbd2b1acac77325"), looks := true }, kinds := [], alts := [], laidByText := true, laidKinds := [.handle], laidTests := true, laidLooks := .later }
def LinkStandsCardSaid : Prop := Claim7.holds Tryd.pinned (.plain (OpenSpec.ofChange linkStandsSpec)) linkStandsCard

/-- THE SECOND FORM's CARD OF 'pleatlaw04.WireRound'. -/
def wireRoundUptoCard : Claim7 := { stood := { row := wireRoundUptoRow, standIns := [], harness := (true, "fc1b70d6063f53b9b5e5f21b3783f59681bde73191ec1fbdedbd2b1acac77325"), looks := true }, kinds := [], alts := [], laidByText := true, laidKinds := [.handle], laidTests := true, laidLooks := .later }
def WireRoundUptoCardSaid : Prop := Claim7.holds Tryd.pinned (.plain (OpenSpec.upto wireRoundSpec)) wireRoundUptoCard

/-- THE SECOND FORM's CARD OF 'pleatlaw09.LinkStands'. -/
def linkStandsUptoCard : Claim7 := { stood := { row := linkStandsUptoRow, standIns := [], harness := (true, "fc1b70d6063f53b9b5e5f21b3783f59681bde73191ec1fbdedbd2b1acac77325"), looks := true }, kinds := [], alts := [], laidByText := true, laidKinds := [.handle], laidTests := true, laidLooks := .later }
def LinkStandsUptoCardSaid : Prop := Claim7.holds Tryd.pinned (.plain (OpenSpec.upto linkStandsSpec)) linkStandsUptoCard
end Rows
end Go.Proofs.YtiaohbbafaaibabDoor
