/-
  DERIVED. GIVEN WITH THE SEED: THE CARDS: each row of YtdaddlplpkmkmaaDoorRows.lean that lists a variable, with what it lists TIED to the program's text (the seventh form; the later family's looks); each row that meets fmt, with fmt's text TOLD by the authors' own Lean function (tested against real Go, not proved from fmt's source: count such statements apart). THE CARD IS WHAT COUNTS. Prove the row's statement (the work); the ties are given (YtdaddlplpkmkmaaDoorTie.lean); close each card by the builder's one call (the guide's Derived/Test/ToyasCard.lean, 'card_holds'). Laid BY PROGRAM, IN A SANDBOX (cutbox-door.mjs). By AI agents, Wed Nov 11 2026. No macro, syntax, notation, axiom, sorry.
-/
import Derived.Test.YtdaddlplpkmkmaaDoorRows
import GoSem.ClaimSeven
namespace Go.Proofs.YtdaddlplpkmkmaaDoor
namespace Rows

/-- THE TIED CARD OF 'cruciblelaw13.Loglines'. -/
def loglinesCard : Claim7 := { stood := { row := loglinesRow, standIns := [], harness := (true, "7cffa544f5ce9236ca36ca4a846f902000f3d57bbf985da6151aada613fd2646"), looks := true }, kinds := [], alts := [], laidByText := true, laidKinds := [.data, .data, .data, .data, .sentinel, .sentinel, .pinned], laidTests := true, laidLooks := .later }
def LoglinesCardSaid : Prop := Claim7.holds Tryd.pinned (.plain (OpenSpec.ofChange loglinesSpec)) loglinesCard

/-- THE TIED CARD OF 'cruciblelaw13.LoglineForms'. -/
def loglineFormsCard : Claim7 := { stood := { row := loglineFormsRow, standIns := [], harness := (true, "7cffa544f5ce9236ca36ca4a846f902000f3d57bbf985da6151aada613fd2646"), looks := true }, kinds := [], alts := [], laidByText := true, laidKinds := [.data, .data, .data, .data, .sentinel, .sentinel, .pinned], laidTests := true, laidLooks := .later }
def LoglineFormsCardSaid : Prop := Claim7.holds Tryd.pinned (.plain (OpenSpec.ofChange loglineFormsSpec)) loglineFormsCard

/-- THE TIED CARD OF 'cruciblelaw13.LoglineUnlike'. -/
def loglineUnlikeCard : Claim7 := { stood := { row := loglineUnlikeRow, standIns := [], harness := (true, "7cffa544f5ce9236ca36ca4a846f902000f3d57bbf985da6151aada613fd2646"), looks := true }, kinds := [], alts := [], laidByText := true, laidKinds := [.data, .data, .data, .data, .sentinel, .sentinel, .pinned], laidTests := true, laidLooks := .later }
def LoglineUnlikeCardSaid : Prop := Claim7.holds Tryd.pinned (.plain (OpenSpec.ofChange loglineUnlikeSpec)) loglineUnlikeCard

/-- THE TIED CARD OF 'cruciblelaw13.LoglineTimes'. -/
def loglineTimesCard : Claim7 := { stood := { row := loglineTimesRow, standIns := [], harness := (true, "7cffa544f5ce9236ca36ca4a846f902000f3d57bbf985da6151aada613fd2646"), looks := true }, kinds := [], alts := [], laidByText := true, laidKinds := [.data, .data, .data, .data, .sentinel, .sentinel, .pinned], laidTests := true, laidLooks := .later }
def LoglineTimesCardSaid : Prop := Claim7.holds Tryd.pinned (.plain (OpenSpec.ofChange loglineTimesSpec)) loglineTimesCard

/-- THE TIED CARD OF 'cruciblelaw14.LogCut'. -/
def logCutCard : Claim7 := { stood := { row := logCutRow, standIns := [], harness := (true, "7cffa544f5ce9236ca36ca4a846f902000f3d57bbf985da6151aada613fd2646"), looks := true }, kinds := [], alts := [], laidByText := true, laidKinds := [.data, .data, .data, .data, .sentinel, .sentinel, .pinned], laidTests := true, laidLooks := .later }
def LogCutCardSaid : Prop := Claim7.holds Tryd.pinned (.plain (OpenSpec.ofChange logCutSpec)) logCutCard

/-- THE TIED CARD OF 'cruciblelaw14.LogForms'. -/
def logFormsCard : Claim7 := { stood := { row := logFormsRow, standIns := [], harness := (true, "7cffa544f5ce9236ca36ca4a846f902000f3d57bbf985da6151aada613fd2646"), looks := true }, kinds := [], alts := [], laidByText := true, laidKinds := [.data, .data, .data, .data, .sentinel, .sentinel, .pinned], laidTests := true, laidLooks := .later }
def LogFormsCardSaid : Prop := Claim7.holds Tryd.pinned (.plain (OpenSpec.ofChange logFormsSpec)) logFormsCard

/-- THE TIED CARD OF 'cruciblelaw14.LogTwo'. -/
def logTwoCard : Claim7 := { stood := { row := logTwoRow, standIns := [], harness := (true, "7cffa544f5ce9236ca36ca4a846f902000f3d57bbf985da6151aada613fd2646"), looks := true }, kinds := [], alts := [], laidByText := true, laidKinds := [.data, .data, .data, .data, .sentinel, .sentinel, .pinned], laidTests := true, laidLooks := .later }
def LogTwoCardSaid : Prop := Claim7.holds Tryd.pinned (.plain (OpenSpec.ofChange logTwoSpec)) logTwoCard

/-- THE TIED CARD OF 'cruciblelaw14.LogLast'. -/
def logLastCard : Claim7 := { stood := { row := logLastRow, standIns := [], harness := (true, "7cffa544f5ce9236ca36ca4a846f902000f3d57bbf985da6151aada613fd2646"), looks := true }, kinds := [], alts := [], laidByText := true, laidKinds := [.data, .data, .data, .data, .sentinel, .sentinel, .pinned], laidTests := true, laidLooks := .later }
def LogLastCardSaid : Prop := Claim7.holds Tryd.pinned (.plain (OpenSpec.ofChange logLastSpec)) logLastCard

/-- THE TIED CARD OF 'cruciblelaw14.LogLoad'. -/
def logLoadCard : Claim7 := { stood := { row := logLoadRow, standIns := [], harness := (true, "7cffa544f5ce9236ca36ca4a846f902000f3d57bbf985da6151aada613fd2646"), looks := true }, kinds := [], alts := [], laidByText := true, laidKinds := [.data, .data, .data, .data, .sentinel, .sentinel, .pinned], laidTests := true, laidLooks := .later }
def LogLoadCardSaid : Prop := Claim7.holds Tryd.pinned (.plain (OpenSpec.ofChange logLoadSpec)) logLoadCard

/-- THE SECOND FORM's CARD OF 'cruciblelaw13.Loglines'. -/
def loglinesUptoCard : Claim7 := { stood := { row := loglinesUptoRow, standIns := [], harness := (true, "7cffa544f5ce9236ca36ca4a846f902000f3d57bbf985da6151aada613fd2646"), looks := true }, kinds := [], alts := [], laidByText := true, laidKinds := [.data, .data, .data, .data, .sentinel, .sentinel, .pinned], laidTests := true, laidLooks := .later }
def LoglinesUptoCardSaid : Prop := Claim7.holds Tryd.pinned (.plain (OpenSpec.upto loglinesSpec)) loglinesUptoCard

/-- THE SECOND FORM's CARD OF 'cruciblelaw13.LoglineForms'. -/
def loglineFormsUptoCard : Claim7 := { stood := { row := loglineFormsUptoRow, standIns := [], harness := (true, "7cffa544f5ce9236ca36ca4a846f902000f3d57bbf985da6151aada613fd2646"), looks := true }, kinds := [], alts := [], laidByText := true, laidKinds := [.data, .data, .data, .data, .sentinel, .sentinel, .pinned], laidTests := true, laidLooks := .later }
def LoglineFormsUptoCardSaid : Prop := Claim7.holds Tryd.pinned (.plain (OpenSpec.upto loglineFormsSpec)) loglineFormsUptoCard

/-- THE SECOND FORM's CARD OF 'cruciblelaw13.LoglineUnlike'. -/
def loglineUnlikeUptoCard : Claim7 := { stood := { row := loglineUnlikeUptoRow, standIns := [], harness := (true, "7cffa544f5ce9236ca36ca4a846f902000f3d57bbf985da6151aada613fd2646"), looks := true }, kinds := [], alts := [], laidByText := true, laidKinds := [.data, .data, .data, .data, .sentinel, .sentinel, .pinned], laidTests := true, laidLooks := .later }
def LoglineUnlikeUptoCardSaid : Prop := Claim7.holds Tryd.pinned (.plain (OpenSpec.upto loglineUnlikeSpec)) loglineUnlikeUptoCard

/-- THE SECOND FORM's CARD OF 'cruciblelaw13.LoglineTimes'. -/
def loglineTimesUptoCard : Claim7 := { stood := { row := loglineTimesUptoRow, standIns := [], harness := (true, "7cffa544f5ce9236ca36ca4a846f902000f3d57bbf985da6151aada613fd2646"), looks := true }, kinds := [], alts := [], laidByText := true, laidKinds := [.data, .data, .data, .data, .sentinel, .sentinel, .pinned], laidTests := true, laidLooks := .later }
def LoglineTimesUptoCardSaid : Prop := Claim7.holds Tryd.pinned (.plain (OpenSpec.upto loglineTimesSpec)) loglineTimesUptoCard

/-- THE SECOND FORM's CARD OF 'cruciblelaw14.LogCut'. -/
def logCutUptoCard : Claim7 := { stood := { row := logCutUptoRow, standIns := [], harness := (true, "7cffa544f5ce9236ca36ca4a846f902000f3d57bbf985da6151aada613fd2646"), looks := true }, kinds := [], alts := [], laidByText := true, laidKinds := [.data, .data, .data, .data, .sentinel, .sentinel, .pinned], laidTests := true, laidLooks := .later }
def LogCutUptoCardSaid : Prop := Claim7.holds Tryd.pinned (.plain (OpenSpec.upto logCutSpec)) logCutUptoCard

/-- THE SECOND FORM's CARD OF 'cruciblelaw14.LogForms'. -/
def logFormsUptoCard : Claim7 := { stood := { row := logFormsUptoRow, standIns := [], harness := (true, "7cffa544f5ce9236ca36ca4a846f902000f3d57bbf985da6151aada613fd2646"), looks := true }, kinds := [], alts := [], laidByText := true, laidKinds := [.data, .data, .data, .data, .sentinel, .sentinel, .pinned], laidTests := true, laidLooks := .later }
def LogFormsUptoCardSaid : Prop := Claim7.holds Tryd.pinned (.plain (OpenSpec.upto logFormsSpec)) logFormsUptoCard

/-- THE SECOND FORM's CARD OF 'cruciblelaw14.LogTwo'. -/
def logTwoUptoCard : Claim7 := { stood := { row := logTwoUptoRow, standIns := [], harness := (true, "7cffa544f5ce9236ca36ca4a846f902000f3d57bbf985da6151aada613fd2646"), looks := true }, kinds := [], alts := [], laidByText := true, laidKinds := [.data, .data, .data, .data, .sentinel, .sentinel, .pinned], laidTests := true, laidLooks := .later }
def LogTwoUptoCardSaid : Prop := Claim7.holds Tryd.pinned (.plain (OpenSpec.upto logTwoSpec)) logTwoUptoCard

/-- THE SECOND FORM's CARD OF 'cruciblelaw14.LogLast'. -/
def logLastUptoCard : Claim7 := { stood := { row := logLastUptoRow, standIns := [], harness := (true, "7cffa544f5ce9236ca36ca4a846f902000f3d57bbf985da6151aada613fd2646"), looks := true }, kinds := [], alts := [], laidByText := true, laidKinds := [.data, .data, .data, .data, .sentinel, .sentinel, .pinned], laidTests := true, laidLooks := .later }
def LogLastUptoCardSaid : Prop := Claim7.holds Tryd.pinned (.plain (OpenSpec.upto logLastSpec)) logLastUptoCard

/-- THE SECOND FORM's CARD OF 'cruciblelaw14.LogLoad'. -/
def logLoadUptoCard : Claim7 := { stood := { row := logLoadUptoRow, standIns := [], harness := (true, "7cffa544f5ce9236ca36ca4a846f902000f3d57bbf985da6151aada613fd2646"), looks := true }, kinds := [], alts := [], laidByText := true, laidKinds := [.data, .data, .data, .data, .sentinel, .sentinel, .pinned], laidTests := true, laidLooks := .later }
def LogLoadUptoCardSaid : Prop := Claim7.holds Tryd.pinned (.plain (OpenSpec.upto logLoadSpec)) logLoadUptoCard
end Rows
end Go.Proofs.YtdaddlplpkmkmaaDoor
