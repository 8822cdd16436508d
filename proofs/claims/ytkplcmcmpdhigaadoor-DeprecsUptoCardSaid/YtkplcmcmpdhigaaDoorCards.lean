/-
  DERIVED. GIVEN WITH THE SEED: THE CARDS: each row of YtkplcmcmpdhigaaDoorRows.lean that lists a variable, with what it lists TIED to the program's text (the seventh form; the later family's looks); each row that meets fmt, with fmt's text TOLD by the authors' own Lean function (tested against real Go, not proved from fmt's source: count such statements apart). THE CARD IS WHAT COUNTS. Prove the row's statement (the work); the ties are given (YtkplcmcmpdhigaaDoorTie.lean); close each card by the builder's one call (the guide's Derived/Test/ToyasCard.lean, 'card_holds'). Laid BY PROGRAM, IN A SANDBOX (cutbox-door.mjs). By AI agents, Wed Nov 11 2026. No macro, syntax, notation, axiom, sorry.
-/
import Derived.Test.YtkplcmcmpdhigaaDoorRows
import GoSem.ClaimSeven
namespace Go.Proofs.YtkplcmcmpdhigaaDoor
namespace Rows

/-- THE TIED CARD OF 'cruciblelaw11.Signs'. -/
def signsCard : Claim7 := { stood := { row := signsRow, standIns := [], harness := (true, "eb789aacfb0e7fe7d612192219f70813ae1bf13bb2c047d54018075b3d20e742"), looks := false }, kinds := [], alts := [], laidByText := true, laidKinds := [.data, .pinned], laidTests := true, laidLooks := .later }
def SignsCardSaid : Prop := Claim7.holds Tryd.pinned (.plain (OpenSpec.ofChange signsSpec)) signsCard

/-- THE TIED CARD OF 'cruciblelaw11.SignForms'. -/
def signFormsCard : Claim7 := { stood := { row := signFormsRow, standIns := [], harness := (true, "eb789aacfb0e7fe7d612192219f70813ae1bf13bb2c047d54018075b3d20e742"), looks := false }, kinds := [], alts := [], laidByText := true, laidKinds := [.data, .pinned], laidTests := true, laidLooks := .later }
def SignFormsCardSaid : Prop := Claim7.holds Tryd.pinned (.plain (OpenSpec.ofChange signFormsSpec)) signFormsCard

/-- THE TIED CARD OF 'cruciblelaw11.SignOther'. -/
def signOtherCard : Claim7 := { stood := { row := signOtherRow, standIns := [], harness := (true, "eb789aacfb0e7fe7d612192219f70813ae1bf13bb2c047d54018075b3d20e742"), looks := false }, kinds := [], alts := [], laidByText := true, laidKinds := [.data, .pinned], laidTests := true, laidLooks := .later }
def SignOtherCardSaid : Prop := Claim7.holds Tryd.pinned (.plain (OpenSpec.ofChange signOtherSpec)) signOtherCard

/-- THE TIED CARD OF 'cruciblelaw11.SignParts'. -/
def signPartsCard : Claim7 := { stood := { row := signPartsRow, standIns := [], harness := (true, "eb789aacfb0e7fe7d612192219f70813ae1bf13bb2c047d54018075b3d20e742"), looks := false }, kinds := [], alts := [], laidByText := true, laidKinds := [.data, .pinned], laidTests := true, laidLooks := .later }
def SignPartsCardSaid : Prop := Claim7.holds Tryd.pinned (.plain (OpenSpec.ofChange signPartsSpec)) signPartsCard

/-- THE TIED CARD OF 'cruciblelaw15.Deprecs'. -/
def deprecsCard : Claim7 := { stood := { row := deprecsRow, standIns := [], harness := (true, "eb789aacfb0e7fe7d612192219f70813ae1bf13bb2c047d54018075b3d20e742"), looks := false }, kinds := [], alts := [], laidByText := true, laidKinds := [.data, .pinned], laidTests := true, laidLooks := .later }
def DeprecsCardSaid : Prop := Claim7.holds Tryd.pinned (.plain (OpenSpec.ofChange deprecsSpec)) deprecsCard

/-- THE TIED CARD OF 'cruciblelaw15.DeprecForms'. -/
def deprecFormsCard : Claim7 := { stood := { row := deprecFormsRow, standIns := [], harness := (true, "eb789aacfb0e7fe7d612192219f70813ae1bf13bb2c047d54018075b3d20e742"), looks := false }, kinds := [], alts := [], laidByText := true, laidKinds := [.data, .pinned], laidTests := true, laidLooks := .later }
def DeprecFormsCardSaid : Prop := Claim7.holds Tryd.pinned (.plain (OpenSpec.ofChange deprecFormsSpec)) deprecFormsCard

/-- THE TIED CARD OF 'cruciblelaw15.DeprecUnlike'. -/
def deprecUnlikeCard : Claim7 := { stood := { row := deprecUnlikeRow, standIns := [], harness := (true, "eb789aacfb0e7fe7d612192219f70813ae1bf13bb2c047d54018075b3d20e742"), looks := false }, kinds := [], alts := [], laidByText := true, laidKinds := [.data, .pinned], laidTests := true, laidLooks := .later }
def DeprecUnlikeCardSaid : Prop := Claim7.holds Tryd.pinned (.plain (OpenSpec.ofChange deprecUnlikeSpec)) deprecUnlikeCard

/-- THE TIED CARD OF 'cruciblelaw15.DeprecSizes'. -/
def deprecSizesCard : Claim7 := { stood := { row := deprecSizesRow, standIns := [], harness := (true, "eb789aacfb0e7fe7d612192219f70813ae1bf13bb2c047d54018075b3d20e742"), looks := false }, kinds := [], alts := [], laidByText := true, laidKinds := [.data, .pinned], laidTests := true, laidLooks := .later }
def DeprecSizesCardSaid : Prop := Claim7.holds Tryd.pinned (.plain (OpenSpec.ofChange deprecSizesSpec)) deprecSizesCard

/-- THE TIED CARD OF 'cruciblelaw16.Deplogs'. -/
def deplogsCard : Claim7 := { stood := { row := deplogsRow, standIns := [], harness := (true, "eb789aacfb0e7fe7d612192219f70813ae1bf13bb2c047d54018075b3d20e742"), looks := false }, kinds := [], alts := [], laidByText := true, laidKinds := [.data, .pinned], laidTests := true, laidLooks := .later }
def DeplogsCardSaid : Prop := Claim7.holds Tryd.pinned (.plain (OpenSpec.ofChange deplogsSpec)) deplogsCard

/-- THE TIED CARD OF 'cruciblelaw16.DeplogCut'. -/
def deplogCutCard : Claim7 := { stood := { row := deplogCutRow, standIns := [], harness := (true, "eb789aacfb0e7fe7d612192219f70813ae1bf13bb2c047d54018075b3d20e742"), looks := false }, kinds := [], alts := [], laidByText := true, laidKinds := [.data, .pinned], laidTests := true, laidLooks := .later }
def DeplogCutCardSaid : Prop := Claim7.holds Tryd.pinned (.plain (OpenSpec.ofChange deplogCutSpec)) deplogCutCard

/-- THE TIED CARD OF 'cruciblelaw16.DeplogForms'. -/
def deplogFormsCard : Claim7 := { stood := { row := deplogFormsRow, standIns := [], harness := (true, "eb789aacfb0e7fe7d612192219f70813ae1bf13bb2c047d54018075b3d20e742"), looks := false }, kinds := [], alts := [], laidByText := true, laidKinds := [.data, .pinned], laidTests := true, laidLooks := .later }
def DeplogFormsCardSaid : Prop := Claim7.holds Tryd.pinned (.plain (OpenSpec.ofChange deplogFormsSpec)) deplogFormsCard

/-- THE TIED CARD OF 'cruciblelaw16.DeplogCompacts'. -/
def deplogCompactsCard : Claim7 := { stood := { row := deplogCompactsRow, standIns := [], harness := (true, "eb789aacfb0e7fe7d612192219f70813ae1bf13bb2c047d54018075b3d20e742"), looks := false }, kinds := [], alts := [], laidByText := true, laidKinds := [.data, .pinned], laidTests := true, laidLooks := .later }
def DeplogCompactsCardSaid : Prop := Claim7.holds Tryd.pinned (.plain (OpenSpec.ofChange deplogCompactsSpec)) deplogCompactsCard

/-- THE TIED CARD OF 'cruciblelaw16.DeplogBad'. -/
def deplogBadCard : Claim7 := { stood := { row := deplogBadRow, standIns := [], harness := (true, "eb789aacfb0e7fe7d612192219f70813ae1bf13bb2c047d54018075b3d20e742"), looks := false }, kinds := [], alts := [], laidByText := true, laidKinds := [.data, .pinned], laidTests := true, laidLooks := .later }
def DeplogBadCardSaid : Prop := Claim7.holds Tryd.pinned (.plain (OpenSpec.ofChange deplogBadSpec)) deplogBadCard

/-- THE TIED CARD OF 'cruciblelaw16.DeplogTwo'. -/
def deplogTwoCard : Claim7 := { stood := { row := deplogTwoRow, standIns := [], harness := (true, "eb789aacfb0e7fe7d612192219f70813ae1bf13bb2c047d54018075b3d20e742"), looks := false }, kinds := [], alts := [], laidByText := true, laidKinds := [.data, .pinned], laidTests := true, laidLooks := .later }
def DeplogTwoCardSaid : Prop := Claim7.holds Tryd.pinned (.plain (OpenSpec.ofChange deplogTwoSpec)) deplogTwoCard

/-- THE TIED CARD OF 'cruciblelaw16.DeplogLast'. -/
def deplogLastCard : Claim7 := { stood := { row := deplogLastRow, standIns := [], harness := (true, "eb789aacfb0e7fe7d612192219f70813ae1bf13bb2c047d54018075b3d20e742"), looks := false }, kinds := [], alts := [], laidByText := true, laidKinds := [.data, .pinned], laidTests := true, laidLooks := .later }
def DeplogLastCardSaid : Prop := Claim7.holds Tryd.pinned (.plain (OpenSpec.ofChange deplogLastSpec)) deplogLastCard

/-- THE TIED CARD OF 'cruciblelaw16.DeplogLoad'. -/
def deplogLoadCard : Claim7 := { stood := { row := deplogLoadRow, standIns := [], harness := (true, "eb789aacfb0e7fe7d612192219f70813ae1bf13bb2c047d54018075b3d20e742"), looks := false }, kinds := [], alts := [], laidByText := true, laidKinds := [.data, .pinned], laidTests := true, laidLooks := .later }
def DeplogLoadCardSaid : Prop := Claim7.holds Tryd.pinned (.plain (OpenSpec.ofChange deplogLoadSpec)) deplogLoadCard

/-- THE SECOND FORM's CARD OF 'cruciblelaw11.Signs'. -/
def signsUptoCard : Claim7 := { stood := { row := signsUptoRow, standIns := [], harness := (true, "eb789aacfb0e7fe7d612192219f70813ae1bf13bb2c047d54018075b3d20e742"), looks := false }, kinds := [], alts := [], laidByText := true, laidKinds := [.data, .pinned], laidTests := true, laidLooks := .later }
def SignsUptoCardSaid : Prop := Claim7.holds Tryd.pinned (.plain (OpenSpec.upto signsSpec)) signsUptoCard

/-- THE SECOND FORM's CARD OF 'cruciblelaw11.SignForms'. -/
def signFormsUptoCard : Claim7 := { stood := { row := signFormsUptoRow, standIns := [], harness := (true, "eb789aacfb0e7fe7d612192219f70813ae1bf13bb2c047d54018075b3d20e742"), looks := false }, kinds := [], alts := [], laidByText := true, laidKinds := [.data, .pinned], laidTests := true, laidLooks := .later }
def SignFormsUptoCardSaid : Prop := Claim7.holds Tryd.pinned (.plain (OpenSpec.upto signFormsSpec)) signFormsUptoCard

/-- THE SECOND FORM's CARD OF 'cruciblelaw11.SignOther'. -/
def signOtherUptoCard : Claim7 := { stood := { row := signOtherUptoRow, standIns := [], harness := (true, "eb789aacfb0e7fe7d612192219f70813ae1bf13bb2c047d54018075b3d20e742"), looks := false }, kinds := [], alts := [], laidByText := true, laidKinds := [.data, .pinned], laidTests := true, laidLooks := .later }
def SignOtherUptoCardSaid : Prop := Claim7.holds Tryd.pinned (.plain (OpenSpec.upto signOtherSpec)) signOtherUptoCard

/-- THE SECOND FORM's CARD OF 'cruciblelaw11.SignParts'. -/
def signPartsUptoCard : Claim7 := { stood := { row := signPartsUptoRow, standIns := [], harness := (true, "eb789aacfb0e7fe7d612192219f70813ae1bf13bb2c047d54018075b3d20e742"), looks := false }, kinds := [], alts := [], laidByText := true, laidKinds := [.data, .pinned], laidTests := true, laidLooks := .later }
def SignPartsUptoCardSaid : Prop := Claim7.holds Tryd.pinned (.plain (OpenSpec.upto signPartsSpec)) signPartsUptoCard

/-- THE SECOND FORM's CARD OF 'cruciblelaw15.Deprecs'. -/
def deprecsUptoCard : Claim7 := { stood := { row := deprecsUptoRow, standIns := [], harness := (true, "eb789aacfb0e7fe7d612192219f70813ae1bf13bb2c047d54018075b3d20e742"), looks := false }, kinds := [], alts := [], laidByText := true, laidKinds := [.data, .pinned], laidTests := true, laidLooks := .later }
def DeprecsUptoCardSaid : Prop := Claim7.holds Tryd.pinned (.plain (OpenSpec.upto deprecsSpec)) deprecsUptoCard

/-- THE SECOND FORM's CARD OF 'cruciblelaw15.DeprecForms'. -/
def deprecFormsUptoCard : Claim7 := { stood := { row := deprecFormsUptoRow, standIns := [], harness := (true, "eb789aacfb0e7fe7d612192219f70813ae1bf13bb2c047d54018075b3d20e742"), looks := false }, kinds := [], alts := [], laidByText := true, laidKinds := [.data, .pinned], laidTests := true, laidLooks := .later }
def DeprecFormsUptoCardSaid : Prop := Claim7.holds Tryd.pinned (.plain (OpenSpec.upto deprecFormsSpec)) deprecFormsUptoCard

/-- THE SECOND FORM's CARD OF 'cruciblelaw15.DeprecUnlike'. -/
def deprecUnlikeUptoCard : Claim7 := { stood := { row := deprecUnlikeUptoRow, standIns := [], harness := (true, "eb789aacfb0e7fe7d612192219f70813ae1bf13bb2c047d54018075b3d20e742"), looks := false }, kinds := [], alts := [], laidByText := true, laidKinds := [.data, .pinned], laidTests := true, laidLooks := .later }
def DeprecUnlikeUptoCardSaid : Prop := Claim7.holds Tryd.pinned (.plain (OpenSpec.upto deprecUnlikeSpec)) deprecUnlikeUptoCard

/-- THE SECOND FORM's CARD OF 'cruciblelaw15.DeprecSizes'. -/
def deprecSizesUptoCard : Claim7 := { stood := { row := deprecSizesUptoRow, standIns := [], harness := (true, "eb789aacfb0e7fe7d612192219f70813ae1bf13bb2c047d54018075b3d20e742"), looks := false }, kinds := [], alts := [], laidByText := true, laidKinds := [.data, .pinned], laidTests := true, laidLooks := .later }
def DeprecSizesUptoCardSaid : Prop := Claim7.holds Tryd.pinned (.plain (OpenSpec.upto deprecSizesSpec)) deprecSizesUptoCard

/-- THE SECOND FORM's CARD OF 'cruciblelaw16.Deplogs'. -/
def deplogsUptoCard : Claim7 := { stood := { row := deplogsUptoRow, standIns := [], harness := (true, "eb789aacfb0e7fe7d612192219f70813ae1bf13bb2c047d54018075b3d20e742"), looks := false }, kinds := [], alts := [], laidByText := true, laidKinds := [.data, .pinned], laidTests := true, laidLooks := .later }
def DeplogsUptoCardSaid : Prop := Claim7.holds Tryd.pinned (.plain (OpenSpec.upto deplogsSpec)) deplogsUptoCard

/-- THE SECOND FORM's CARD OF 'cruciblelaw16.DeplogCut'. -/
def deplogCutUptoCard : Claim7 := { stood := { row := deplogCutUptoRow, standIns := [], harness := (true, "eb789aacfb0e7fe7d612192219f70813ae1bf13bb2c047d54018075b3d20e742"), looks := false }, kinds := [], alts := [], laidByText := true, laidKinds := [.data, .pinned], laidTests := true, laidLooks := .later }
def DeplogCutUptoCardSaid : Prop := Claim7.holds Tryd.pinned (.plain (OpenSpec.upto deplogCutSpec)) deplogCutUptoCard

/-- THE SECOND FORM's CARD OF 'cruciblelaw16.DeplogForms'. -/
def deplogFormsUptoCard : Claim7 := { stood := { row := deplogFormsUptoRow, standIns := [], harness := (true, "eb789aacfb0e7fe7d612192219f70813ae1bf13bb2c047d54018075b3d20e742"), looks := false }, kinds := [], alts := [], laidByText := true, laidKinds := [.data, .pinned], laidTests := true, laidLooks := .later }
def DeplogFormsUptoCardSaid : Prop := Claim7.holds Tryd.pinned (.plain (OpenSpec.upto deplogFormsSpec)) deplogFormsUptoCard

/-- THE SECOND FORM's CARD OF 'cruciblelaw16.DeplogCompacts'. -/
def deplogCompactsUptoCard : Claim7 := { stood := { row := deplogCompactsUptoRow, standIns := [], harness := (true, "eb789aacfb0e7fe7d612192219f70813ae1bf13bb2c047d54018075b3d20e742"), looks := false }, kinds := [], alts := [], laidByText := true, laidKinds := [.data, .pinned], laidTests := true, laidLooks := .later }
def DeplogCompactsUptoCardSaid : Prop := Claim7.holds Tryd.pinned (.plain (OpenSpec.upto deplogCompactsSpec)) deplogCompactsUptoCard

/-- THE SECOND FORM's CARD OF 'cruciblelaw16.DeplogBad'. -/
def deplogBadUptoCard : Claim7 := { stood := { row := deplogBadUptoRow, standIns := [], harness := (true, "eb789aacfb0e7fe7d612192219f70813ae1bf13bb2c047d54018075b3d20e742"), looks := false }, kinds := [], alts := [], laidByText := true, laidKinds := [.data, .pinned], laidTests := true, laidLooks := .later }
def DeplogBadUptoCardSaid : Prop := Claim7.holds Tryd.pinned (.plain (OpenSpec.upto deplogBadSpec)) deplogBadUptoCard

/-- THE SECOND FORM's CARD OF 'cruciblelaw16.DeplogTwo'. -/
def deplogTwoUptoCard : Claim7 := { stood := { row := deplogTwoUptoRow, standIns := [], harness := (true, "eb789aacfb0e7fe7d612192219f70813ae1bf13bb2c047d54018075b3d20e742"), looks := false }, kinds := [], alts := [], laidByText := true, laidKinds := [.data, .pinned], laidTests := true, laidLooks := .later }
def DeplogTwoUptoCardSaid : Prop := Claim7.holds Tryd.pinned (.plain (OpenSpec.upto deplogTwoSpec)) deplogTwoUptoCard

/-- THE SECOND FORM's CARD OF 'cruciblelaw16.DeplogLast'. -/
def deplogLastUptoCard : Claim7 := { stood := { row := deplogLastUptoRow, standIns := [], harness := (true, "eb789aacfb0e7fe7d612192219f70813ae1bf13bb2c047d54018075b3d20e742"), looks := false }, kinds := [], alts := [], laidByText := true, laidKinds := [.data, .pinned], laidTests := true, laidLooks := .later }
def DeplogLastUptoCardSaid : Prop := Claim7.holds Tryd.pinned (.plain (OpenSpec.upto deplogLastSpec)) deplogLastUptoCard

/-- THE SECOND FORM's CARD OF 'cruciblelaw16.DeplogLoad'. -/
def deplogLoadUptoCard : Claim7 := { stood := { row := deplogLoadUptoRow, standIns := [], harness := (true, "eb789aacfb0e7fe7d612192219f70813ae1bf13bb2c047d54018075b3d20e742"), looks := false }, kinds := [], alts := [], laidByText := true, laidKinds := [.data, .pinned], laidTests := true, laidLooks := .later }
def DeplogLoadUptoCardSaid : Prop := Claim7.holds Tryd.pinned (.plain (OpenSpec.upto deplogLoadSpec)) deplogLoadUptoCard
end Rows
end Go.Proofs.YtkplcmcmpdhigaaDoor
