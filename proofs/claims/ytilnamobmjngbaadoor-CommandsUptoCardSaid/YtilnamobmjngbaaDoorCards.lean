/-
  DERIVED. GIVEN WITH THE SEED: THE CARDS: each row of YtilnamobmjngbaaDoorRows.lean that lists a variable, with what it lists TIED to the program's text (the seventh form; the later family's looks); each row that meets fmt, with fmt's text TOLD by the authors' own Lean function (tested against real Go, not proved from fmt's source: count such statements apart). THE CARD IS WHAT COUNTS. Prove the row's statement (the work); the ties are given (YtilnamobmjngbaaDoorTie.lean); close each card by the builder's one call (the guide's Derived/Test/ToyasCard.lean, 'card_holds'). Laid BY PROGRAM, IN A SANDBOX (cutbox-door.mjs). By AI agents, Wed Nov 11 2026. No macro, syntax, notation, axiom, sorry.
-/
import Derived.Test.YtilnamobmjngbaaDoorRows
import GoSem.ClaimSeven
namespace Go.Proofs.YtilnamobmjngbaaDoor
namespace Rows

/-- THE TIED CARD OF 'cruciblelaw18.Commands'. -/
def commandsCard : Claim7 := { stood := { row := commandsRow, standIns := [], harness := (true, "50859e82c84e228649a675440d19ebaa151ee3dab764d51f53321c5f79116350"), looks := false }, kinds := [], alts := [], laidByText := true, laidKinds := [.data, .pinned], laidTests := true, laidLooks := .later }
def CommandsCardSaid : Prop := Claim7.holds Tryd.pinned (.plain (OpenSpec.ofChange commandsSpec)) commandsCard

/-- THE TIED CARD OF 'cruciblelaw18.CommandForms'. -/
def commandFormsCard : Claim7 := { stood := { row := commandFormsRow, standIns := [], harness := (true, "50859e82c84e228649a675440d19ebaa151ee3dab764d51f53321c5f79116350"), looks := false }, kinds := [], alts := [], laidByText := true, laidKinds := [.data, .pinned], laidTests := true, laidLooks := .later }
def CommandFormsCardSaid : Prop := Claim7.holds Tryd.pinned (.plain (OpenSpec.ofChange commandFormsSpec)) commandFormsCard

/-- THE TIED CARD OF 'cruciblelaw18.CommandReads'. -/
def commandReadsCard : Claim7 := { stood := { row := commandReadsRow, standIns := [], harness := (true, "50859e82c84e228649a675440d19ebaa151ee3dab764d51f53321c5f79116350"), looks := false }, kinds := [], alts := [], laidByText := true, laidKinds := [.data, .pinned], laidTests := true, laidLooks := .later }
def CommandReadsCardSaid : Prop := Claim7.holds Tryd.pinned (.plain (OpenSpec.ofChange commandReadsSpec)) commandReadsCard

/-- THE TIED CARD OF 'cruciblelaw18.CommandSum'. -/
def commandSumCard : Claim7 := { stood := { row := commandSumRow, standIns := [], harness := (true, "50859e82c84e228649a675440d19ebaa151ee3dab764d51f53321c5f79116350"), looks := false }, kinds := [], alts := [], laidByText := true, laidKinds := [.data, .pinned], laidTests := true, laidLooks := .later }
def CommandSumCardSaid : Prop := Claim7.holds Tryd.pinned (.plain (OpenSpec.ofChange commandSumSpec)) commandSumCard

/-- THE TIED CARD OF 'cruciblelaw18.CommandOrder'. -/
def commandOrderCard : Claim7 := { stood := { row := commandOrderRow, standIns := [], harness := (true, "50859e82c84e228649a675440d19ebaa151ee3dab764d51f53321c5f79116350"), looks := false }, kinds := [], alts := [], laidByText := true, laidKinds := [.data, .pinned], laidTests := true, laidLooks := .later }
def CommandOrderCardSaid : Prop := Claim7.holds Tryd.pinned (.plain (OpenSpec.ofChange commandOrderSpec)) commandOrderCard

/-- THE TIED CARD OF 'cruciblelaw18.CommandFirst'. -/
def commandFirstCard : Claim7 := { stood := { row := commandFirstRow, standIns := [], harness := (true, "50859e82c84e228649a675440d19ebaa151ee3dab764d51f53321c5f79116350"), looks := false }, kinds := [], alts := [], laidByText := true, laidKinds := [.data, .pinned], laidTests := true, laidLooks := .later }
def CommandFirstCardSaid : Prop := Claim7.holds Tryd.pinned (.plain (OpenSpec.ofChange commandFirstSpec)) commandFirstCard

/-- THE TIED CARD OF 'cruciblelaw12.Disks'. -/
def disksCard : Claim7 := { stood := { row := disksRow, standIns := [], harness := (true, "50859e82c84e228649a675440d19ebaa151ee3dab764d51f53321c5f79116350"), looks := false }, kinds := [], alts := [], laidByText := true, laidKinds := [.data, .pinned], laidTests := true, laidLooks := .later }
def DisksCardSaid : Prop := Claim7.holds Tryd.pinned (.plain (OpenSpec.ofChange disksSpec)) disksCard

/-- THE TIED CARD OF 'cruciblelaw12.DiskForms'. -/
def diskFormsCard : Claim7 := { stood := { row := diskFormsRow, standIns := [], harness := (true, "50859e82c84e228649a675440d19ebaa151ee3dab764d51f53321c5f79116350"), looks := false }, kinds := [], alts := [], laidByText := true, laidKinds := [.data, .pinned], laidTests := true, laidLooks := .later }
def DiskFormsCardSaid : Prop := Claim7.holds Tryd.pinned (.plain (OpenSpec.ofChange diskFormsSpec)) diskFormsCard

/-- THE TIED CARD OF 'cruciblelaw12.DiskMany'. -/
def diskManyCard : Claim7 := { stood := { row := diskManyRow, standIns := [], harness := (true, "50859e82c84e228649a675440d19ebaa151ee3dab764d51f53321c5f79116350"), looks := false }, kinds := [], alts := [], laidByText := true, laidKinds := [.data, .pinned], laidTests := true, laidLooks := .later }
def DiskManyCardSaid : Prop := Claim7.holds Tryd.pinned (.plain (OpenSpec.ofChange diskManySpec)) diskManyCard

/-- THE TIED CARD OF 'cruciblelaw12.DiskOther'. -/
def diskOtherCard : Claim7 := { stood := { row := diskOtherRow, standIns := [], harness := (true, "50859e82c84e228649a675440d19ebaa151ee3dab764d51f53321c5f79116350"), looks := false }, kinds := [], alts := [], laidByText := true, laidKinds := [.data, .pinned], laidTests := true, laidLooks := .later }
def DiskOtherCardSaid : Prop := Claim7.holds Tryd.pinned (.plain (OpenSpec.ofChange diskOtherSpec)) diskOtherCard

/-- THE TIED CARD OF 'cruciblelaw12.DiskRow'. -/
def diskRowCard : Claim7 := { stood := { row := diskRowRow, standIns := [], harness := (true, "50859e82c84e228649a675440d19ebaa151ee3dab764d51f53321c5f79116350"), looks := false }, kinds := [], alts := [], laidByText := true, laidKinds := [.data, .pinned], laidTests := true, laidLooks := .later }
def DiskRowCardSaid : Prop := Claim7.holds Tryd.pinned (.plain (OpenSpec.ofChange diskRowSpec)) diskRowCard

/-- THE TIED CARD OF 'cruciblelaw12.DiskTimes'. -/
def diskTimesCard : Claim7 := { stood := { row := diskTimesRow, standIns := [], harness := (true, "50859e82c84e228649a675440d19ebaa151ee3dab764d51f53321c5f79116350"), looks := false }, kinds := [], alts := [], laidByText := true, laidKinds := [.data, .pinned], laidTests := true, laidLooks := .later }
def DiskTimesCardSaid : Prop := Claim7.holds Tryd.pinned (.plain (OpenSpec.ofChange diskTimesSpec)) diskTimesCard

/-- THE SECOND FORM's CARD OF 'cruciblelaw18.Commands'. -/
def commandsUptoCard : Claim7 := { stood := { row := commandsUptoRow, standIns := [], harness := (true, "50859e82c84e228649a675440d19ebaa151ee3dab764d51f53321c5f79116350"), looks := false }, kinds := [], alts := [], laidByText := true, laidKinds := [.data, .pinned], laidTests := true, laidLooks := .later }
def CommandsUptoCardSaid : Prop := Claim7.holds Tryd.pinned (.plain (OpenSpec.upto commandsSpec)) commandsUptoCard

/-- THE SECOND FORM's CARD OF 'cruciblelaw18.CommandForms'. -/
def commandFormsUptoCard : Claim7 := { stood := { row := commandFormsUptoRow, standIns := [], harness := (true, "50859e82c84e228649a675440d19ebaa151ee3dab764d51f53321c5f79116350"), looks := false }, kinds := [], alts := [], laidByText := true, laidKinds := [.data, .pinned], laidTests := true, laidLooks := .later }
def CommandFormsUptoCardSaid : Prop := Claim7.holds Tryd.pinned (.plain (OpenSpec.upto commandFormsSpec)) commandFormsUptoCard

/-- THE SECOND FORM's CARD OF 'cruciblelaw18.CommandReads'. -/
def commandReadsUptoCard : Claim7 := { stood := { row := commandReadsUptoRow, standIns := [], harness := (true, "50859e82c84e228649a675440d19ebaa151ee3dab764d51f53321c5f79116350"), looks := false }, kinds := [], alts := [], laidByText := true, laidKinds := [.data, .pinned], laidTests := true, laidLooks := .later }
def CommandReadsUptoCardSaid : Prop := Claim7.holds Tryd.pinned (.plain (OpenSpec.upto commandReadsSpec)) commandReadsUptoCard

/-- THE SECOND FORM's CARD OF 'cruciblelaw18.CommandSum'. -/
def commandSumUptoCard : Claim7 := { stood := { row := commandSumUptoRow, standIns := [], harness := (true, "50859e82c84e228649a675440d19ebaa151ee3dab764d51f53321c5f79116350"), looks := false }, kinds := [], alts := [], laidByText := true, laidKinds := [.data, .pinned], laidTests := true, laidLooks := .later }
def CommandSumUptoCardSaid : Prop := Claim7.holds Tryd.pinned (.plain (OpenSpec.upto commandSumSpec)) commandSumUptoCard

/-- THE SECOND FORM's CARD OF 'cruciblelaw18.CommandOrder'. -/
def commandOrderUptoCard : Claim7 := { stood := { row := commandOrderUptoRow, standIns := [], harness := (true, "50859e82c84e228649a675440d19ebaa151ee3dab764d51f53321c5f79116350"), looks := false }, kinds := [], alts := [], laidByText := true, laidKinds := [.data, .pinned], laidTests := true, laidLooks := .later }
def CommandOrderUptoCardSaid : Prop := Claim7.holds Tryd.pinned (.plain (OpenSpec.upto commandOrderSpec)) commandOrderUptoCard

/-- THE SECOND FORM's CARD OF 'cruciblelaw18.CommandFirst'. -/
def commandFirstUptoCard : Claim7 := { stood := { row := commandFirstUptoRow, standIns := [], harness := (true, "50859e82c84e228649a675440d19ebaa151ee3dab764d51f53321c5f79116350"), looks := false }, kinds := [], alts := [], laidByText := true, laidKinds := [.data, .pinned], laidTests := true, laidLooks := .later }
def CommandFirstUptoCardSaid : Prop := Claim7.holds Tryd.pinned (.plain (OpenSpec.upto commandFirstSpec)) commandFirstUptoCard

/-- THE SECOND FORM's CARD OF 'cruciblelaw12.Disks'. -/
def disksUptoCard : Claim7 := { stood := { row := disksUptoRow, standIns := [], harness := (true, "50859e82c84e228649a675440d19ebaa151ee3dab764d51f53321c5f79116350"), looks := false }, kinds := [], alts := [], laidByText := true, laidKinds := [.data, .pinned], laidTests := true, laidLooks := .later }
def DisksUptoCardSaid : Prop := Claim7.holds Tryd.pinned (.plain (OpenSpec.upto disksSpec)) disksUptoCard

/-- THE SECOND FORM's CARD OF 'cruciblelaw12.DiskForms'. -/
def diskFormsUptoCard : Claim7 := { stood := { row := diskFormsUptoRow, standIns := [], harness := (true, "50859e82c84e228649a675440d19ebaa151ee3dab764d51f53321c5f79116350"), looks := false }, kinds := [], alts := [], laidByText := true, laidKinds := [.data, .pinned], laidTests := true, laidLooks := .later }
def DiskFormsUptoCardSaid : Prop := Claim7.holds Tryd.pinned (.plain (OpenSpec.upto diskFormsSpec)) diskFormsUptoCard

/-- THE SECOND FORM's CARD OF 'cruciblelaw12.DiskMany'. -/
def diskManyUptoCard : Claim7 := { stood := { row := diskManyUptoRow, standIns := [], harness := (true, "50859e82c84e228649a675440d19ebaa151ee3dab764d51f53321c5f79116350"), looks := false }, kinds := [], alts := [], laidByText := true, laidKinds := [.data, .pinned], laidTests := true, laidLooks := .later }
def DiskManyUptoCardSaid : Prop := Claim7.holds Tryd.pinned (.plain (OpenSpec.upto diskManySpec)) diskManyUptoCard

/-- THE SECOND FORM's CARD OF 'cruciblelaw12.DiskOther'. -/
def diskOtherUptoCard : Claim7 := { stood := { row := diskOtherUptoRow, standIns := [], harness := (true, "50859e82c84e228649a675440d19ebaa151ee3dab764d51f53321c5f79116350"), looks := false }, kinds := [], alts := [], laidByText := true, laidKinds := [.data, .pinned], laidTests := true, laidLooks := .later }
def DiskOtherUptoCardSaid : Prop := Claim7.holds Tryd.pinned (.plain (OpenSpec.upto diskOtherSpec)) diskOtherUptoCard

/-- THE SECOND FORM's CARD OF 'cruciblelaw12.DiskRow'. -/
def diskRowUptoCard : Claim7 := { stood := { row := diskRowUptoRow, standIns := [], harness := (true, "50859e82c84e228649a675440d19ebaa151ee3dab764d51f53321c5f79116350"), looks := false }, kinds := [], alts := [], laidByText := true, laidKinds := [.data, .pinned], laidTests := true, laidLooks := .later }
def DiskRowUptoCardSaid : Prop := Claim7.holds Tryd.pinned (.plain (OpenSpec.upto diskRowSpec)) diskRowUptoCard

/-- THE SECOND FORM's CARD OF 'cruciblelaw12.DiskTimes'. -/
def diskTimesUptoCard : Claim7 := { stood := { row := diskTimesUptoRow, standIns := [], harness := (true, "50859e82c84e228649a675440d19ebaa151ee3dab764d51f53321c5f79116350"), looks := false }, kinds := [], alts := [], laidByText := true, laidKinds := [.data, .pinned], laidTests := true, laidLooks := .later }
def DiskTimesUptoCardSaid : Prop := Claim7.holds Tryd.pinned (.plain (OpenSpec.upto diskTimesSpec)) diskTimesUptoCard
end Rows
end Go.Proofs.YtilnamobmjngbaaDoor
