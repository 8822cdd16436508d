/-
  DERIVED. GIVEN WITH THE SEED: THE CARDS: each row of YtdaddlplpkmkmaaGreatDoorRows.lean that lists a variable, with what it lists TIED to the program's text (the seventh form; the later family's looks); each row that meets fmt, with fmt's text TOLD by the authors' own Lean function (tested against real Go, not proved from fmt's source: count such statements apart). THE CARD IS WHAT COUNTS. Prove the row's statement (the work); the ties are given (YtdaddlplpkmkmaaGreatDoorTie.lean); close each card by the builder's one call (the guide's Derived/Test/ToyasCard.lean, 'card_holds'). Laid BY PROGRAM, IN A SANDBOX (cutbox-door.mjs). By AI agents, Wed Nov 11 2026. No macro, syntax, notation, axiom, sorry.
-/
import Derived.Test.YtdaddlplpkmkmaaGreatDoorRows
import GoSem.ClaimSeven
namespace Go.Proofs.YtdaddlplpkmkmaaGreatDoor
namespace Rows

/-- THE TIED CARD OF 'cruciblelaw14.Logs'. -/
def logsCard : Claim7 := { stood := { row := logsRow, standIns := [], harness := (true, "58d9983032dbccffcfbffa442944cf77f3c44ff1702e3859a6311647efee5fd6"), looks := true }, kinds := [], alts := [], laidByText := true, laidKinds := [.data, .data, .data, .data, .sentinel, .sentinel, .pinned], laidTests := true, laidLooks := .later }
def LogsCardSaid : Prop := Claim7.holds Tryz.pinned (.plain (OpenSpec.ofChange logsSpec)) logsCard

/-- THE TIED CARD OF 'cruciblelaw14.LogBad'. -/
def logBadCard : Claim7 := { stood := { row := logBadRow, standIns := [], harness := (true, "58d9983032dbccffcfbffa442944cf77f3c44ff1702e3859a6311647efee5fd6"), looks := true }, kinds := [], alts := [], laidByText := true, laidKinds := [.data, .data, .data, .data, .sentinel, .sentinel, .pinned], laidTests := true, laidLooks := .later }
def LogBadCardSaid : Prop := Claim7.holds Tryz.pinned (.plain (OpenSpec.ofChange logBadSpec)) logBadCard

/-- THE TIED CARD OF 'cruciblelaw14.LogCompacts'. -/
def logCompactsCard : Claim7 := { stood := { row := logCompactsRow, standIns := [], harness := (true, "58d9983032dbccffcfbffa442944cf77f3c44ff1702e3859a6311647efee5fd6"), looks := true }, kinds := [], alts := [], laidByText := true, laidKinds := [.data, .data, .data, .data, .sentinel, .sentinel, .pinned], laidTests := true, laidLooks := .later }
def LogCompactsCardSaid : Prop := Claim7.holds Tryz.pinned (.plain (OpenSpec.ofChange logCompactsSpec)) logCompactsCard

/-- THE SECOND FORM's CARD OF 'cruciblelaw14.Logs'. -/
def logsUptoCard : Claim7 := { stood := { row := logsUptoRow, standIns := [], harness := (true, "58d9983032dbccffcfbffa442944cf77f3c44ff1702e3859a6311647efee5fd6"), looks := true }, kinds := [], alts := [], laidByText := true, laidKinds := [.data, .data, .data, .data, .sentinel, .sentinel, .pinned], laidTests := true, laidLooks := .later }
def LogsUptoCardSaid : Prop := Claim7.holds Tryz.pinned (.plain (OpenSpec.upto logsSpec)) logsUptoCard

/-- THE SECOND FORM's CARD OF 'cruciblelaw14.LogBad'. -/
def logBadUptoCard : Claim7 := { stood := { row := logBadUptoRow, standIns := [], harness := (true, "58d9983032dbccffcfbffa442944cf77f3c44ff1702e3859a6311647efee5fd6"), looks := true }, kinds := [], alts := [], laidByText := true, laidKinds := [.data, .data, .data, .data, .sentinel, .sentinel, .pinned], laidTests := true, laidLooks := .later }
def LogBadUptoCardSaid : Prop := Claim7.holds Tryz.pinned (.plain (OpenSpec.upto logBadSpec)) logBadUptoCard

/-- THE SECOND FORM's CARD OF 'cruciblelaw14.LogCompacts'. -/
def logCompactsUptoCard : Claim7 := { stood := { row := logCompactsUptoRow, standIns := [], harness := (true, "58d9983032dbccffcfbffa442944cf77f3c44ff1702e3859a6311647efee5fd6"), looks := true }, kinds := [], alts := [], laidByText := true, laidKinds := [.data, .data, .data, .data, .sentinel, .sentinel, .pinned], laidTests := true, laidLooks := .later }
def LogCompactsUptoCardSaid : Prop := Claim7.holds Tryz.pinned (.plain (OpenSpec.upto logCompactsSpec)) logCompactsUptoCard
end Rows
end Go.Proofs.YtdaddlplpkmkmaaGreatDoor
