/-
  DERIVED. GIVEN WITH THE SEED: THE CARDS: each row of YtaokgnhdagcepaaDoorRows.lean that lists a variable, with what it lists TIED to the program's text (the seventh form; the later family's looks); each row that meets fmt, with fmt's text TOLD by the authors' own Lean function (tested against real Go, not proved from fmt's source: count such statements apart). THE CARD IS WHAT COUNTS. Prove the row's statement (the work); the ties are given (YtaokgnhdagcepaaDoorTie.lean); close each card by the builder's one call (the guide's Derived/Test/ToyasCard.lean, 'card_holds'). Laid BY PROGRAM, IN A SANDBOX (cutbox-door.mjs). By AI agents, Wed Nov 11 2026. No macro, syntax, notation, axiom, sorry.
-/
import Derived.Test.YtaokgnhdagcepaaDoorRows
import GoSem.ClaimSeven
namespace Go.Proofs.YtaokgnhdagcepaaDoor
namespace Rows

/-- THE TIED CARD OF 'cruciblelaw16.Deplogs'. -/
def deplogsCard : Claim7 := { stood := { row := deplogsRow, standIns := [], harness := (true, "c3f796b041c3e696512e2b5b4db49b3bd21182d7bf1bb75c3bae4e9e24c86c28"), looks := false }, kinds := [], alts := [], laidByText := true, laidKinds := [.data, .pinned], laidTests := true, laidLooks := .later }
def DeplogsCardSaid : Prop := Claim7.holds Tryd.pinned (.plain (OpenSpec.ofChange deplogsSpec)) deplogsCard

/-- THE SECOND FORM's CARD OF 'cruciblelaw16.Deplogs'. -/
def deplogsUptoCard : Claim7 := { stood := { row := deplogsUptoRow, standIns := [], harness := (true, "c3f796b041c3e696512e2b5b4db49b3bd21182d7bf1bb75c3bae4e9e24c86c28"), looks := false }, kinds := [], alts := [], laidByText := true, laidKinds := [.data, .pinned], laidTests := true, laidLooks := .later }
def DeplogsUptoCardSaid : Prop := Claim7.holds Tryd.pinned (.plain (OpenSpec.upto deplogsSpec)) deplogsUptoCard
end Rows
end Go.Proofs.YtaokgnhdagcepaaDoor
