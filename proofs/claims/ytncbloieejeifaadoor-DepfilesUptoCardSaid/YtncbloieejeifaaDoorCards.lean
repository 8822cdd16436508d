/-
  DERIVED. GIVEN WITH THE SEED: THE CARDS: each row of YtncbloieejeifaaDoorRows.lean that lists a variable, with what it lists TIED to the program's text (the seventh form; the later family's looks); each row that meets fmt, with fmt's text TOLD by the authors' own Lean function (tested against real Go, not proved from fmt's source: count such statements apart). THE CARD IS WHAT COUNTS. Prove the row's statement (the work); the ties are given (YtncbloieejeifaaDoorTie.lean); close each card by the builder's one call (the guide's Derived/Test/ToyasCard.lean, 'card_holds'). Laid BY PROGRAM, IN A SANDBOX (cutbox-door.mjs). By AI agents, Wed Nov 11 2026. No macro, syntax, notation, axiom, sorry.
-/
import Derived.Test.YtncbloieejeifaaDoorRows
import GoSem.ClaimSeven
namespace Go.Proofs.YtncbloieejeifaaDoor
namespace Rows

/-- THE TIED CARD OF 'cruciblelaw7.Wordses'. -/
def wordsesCard : Claim7 := { stood := { row := wordsesRow, standIns := [], harness := (true, "b59b487ca22085fdc14b15dcc6938ae6fb8925f799141a44747c900d56a9d81e"), looks := false }, kinds := [], alts := [], laidByText := true, laidKinds := [.data, .pinned], laidTests := true, laidLooks := .later }
def WordsesCardSaid : Prop := Claim7.holds Tryd.pinned (.plain (OpenSpec.ofChange wordsesSpec)) wordsesCard

/-- THE TIED CARD OF 'cruciblelaw7.WordForms'. -/
def wordFormsCard : Claim7 := { stood := { row := wordFormsRow, standIns := [], harness := (true, "b59b487ca22085fdc14b15dcc6938ae6fb8925f799141a44747c900d56a9d81e"), looks := false }, kinds := [], alts := [], laidByText := true, laidKinds := [.data, .pinned], laidTests := true, laidLooks := .later }
def WordFormsCardSaid : Prop := Claim7.holds Tryd.pinned (.plain (OpenSpec.ofChange wordFormsSpec)) wordFormsCard

/-- THE TIED CARD OF 'cruciblelaw7.WordJoin'. -/
def wordJoinCard : Claim7 := { stood := { row := wordJoinRow, standIns := [], harness := (true, "b59b487ca22085fdc14b15dcc6938ae6fb8925f799141a44747c900d56a9d81e"), looks := false }, kinds := [], alts := [], laidByText := true, laidKinds := [.data, .pinned], laidTests := true, laidLooks := .later }
def WordJoinCardSaid : Prop := Claim7.holds Tryd.pinned (.plain (OpenSpec.ofChange wordJoinSpec)) wordJoinCard

/-- THE TIED CARD OF 'cruciblelaw7.WordAgain'. -/
def wordAgainCard : Claim7 := { stood := { row := wordAgainRow, standIns := [], harness := (true, "b59b487ca22085fdc14b15dcc6938ae6fb8925f799141a44747c900d56a9d81e"), looks := false }, kinds := [], alts := [], laidByText := true, laidKinds := [.data, .pinned], laidTests := true, laidLooks := .later }
def WordAgainCardSaid : Prop := Claim7.holds Tryd.pinned (.plain (OpenSpec.ofChange wordAgainSpec)) wordAgainCard

/-- THE TIED CARD OF 'cruciblelaw2.Paths'. -/
def pathsCard : Claim7 := { stood := { row := pathsRow, standIns := [], harness := (true, "b59b487ca22085fdc14b15dcc6938ae6fb8925f799141a44747c900d56a9d81e"), looks := false }, kinds := [], alts := [], laidByText := true, laidKinds := [.data, .pinned], laidTests := true, laidLooks := .later }
def PathsCardSaid : Prop := Claim7.holds Tryd.pinned (.plain (OpenSpec.ofChange pathsSpec)) pathsCard

/-- THE TIED CARD OF 'cruciblelaw2.PathPieces'. -/
def pathPiecesCard : Claim7 := { stood := { row := pathPiecesRow, standIns := [], harness := (true, "b59b487ca22085fdc14b15dcc6938ae6fb8925f799141a44747c900d56a9d81e"), looks := false }, kinds := [], alts := [], laidByText := true, laidKinds := [.data, .pinned], laidTests := true, laidLooks := .later }
def PathPiecesCardSaid : Prop := Claim7.holds Tryd.pinned (.plain (OpenSpec.ofChange pathPiecesSpec)) pathPiecesCard

/-- THE TIED CARD OF 'cruciblelaw2.PathForms'. -/
def pathFormsCard : Claim7 := { stood := { row := pathFormsRow, standIns := [], harness := (true, "b59b487ca22085fdc14b15dcc6938ae6fb8925f799141a44747c900d56a9d81e"), looks := false }, kinds := [], alts := [], laidByText := true, laidKinds := [.data, .pinned], laidTests := true, laidLooks := .later }
def PathFormsCardSaid : Prop := Claim7.holds Tryd.pinned (.plain (OpenSpec.ofChange pathFormsSpec)) pathFormsCard

/-- THE TIED CARD OF 'cruciblelaw2.PathDots'. -/
def pathDotsCard : Claim7 := { stood := { row := pathDotsRow, standIns := [], harness := (true, "b59b487ca22085fdc14b15dcc6938ae6fb8925f799141a44747c900d56a9d81e"), looks := false }, kinds := [], alts := [], laidByText := true, laidKinds := [.data, .pinned], laidTests := true, laidLooks := .later }
def PathDotsCardSaid : Prop := Claim7.holds Tryd.pinned (.plain (OpenSpec.ofChange pathDotsSpec)) pathDotsCard

/-- THE TIED CARD OF 'cruciblelaw17.Depfiles'. -/
def depfilesCard : Claim7 := { stood := { row := depfilesRow, standIns := [], harness := (true, "b59b487ca22085fdc14b15dcc6938ae6fb8925f799141a44747c900d56a9d81e"), looks := false }, kinds := [], alts := [], laidByText := true, laidKinds := [.data, .pinned], laidTests := true, laidLooks := .later }
def DepfilesCardSaid : Prop := Claim7.holds Tryd.pinned (.plain (OpenSpec.ofChange depfilesSpec)) depfilesCard

/-- THE TIED CARD OF 'cruciblelaw17.DepfileForms'. -/
def depfileFormsCard : Claim7 := { stood := { row := depfileFormsRow, standIns := [], harness := (true, "b59b487ca22085fdc14b15dcc6938ae6fb8925f799141a44747c900d56a9d81e"), looks := false }, kinds := [], alts := [], laidByText := true, laidKinds := [.data, .pinned], laidTests := true, laidLooks := .later }
def DepfileFormsCardSaid : Prop := Claim7.holds Tryd.pinned (.plain (OpenSpec.ofChange depfileFormsSpec)) depfileFormsCard

/-- THE TIED CARD OF 'cruciblelaw17.DepfileUnlike'. -/
def depfileUnlikeCard : Claim7 := { stood := { row := depfileUnlikeRow, standIns := [], harness := (true, "b59b487ca22085fdc14b15dcc6938ae6fb8925f799141a44747c900d56a9d81e"), looks := false }, kinds := [], alts := [], laidByText := true, laidKinds := [.data, .pinned], laidTests := true, laidLooks := .later }
def DepfileUnlikeCardSaid : Prop := Claim7.holds Tryd.pinned (.plain (OpenSpec.ofChange depfileUnlikeSpec)) depfileUnlikeCard

/-- THE TIED CARD OF 'cruciblelaw17.DepfileBy'. -/
def depfileByCard : Claim7 := { stood := { row := depfileByRow, standIns := [], harness := (true, "b59b487ca22085fdc14b15dcc6938ae6fb8925f799141a44747c900d56a9d81e"), looks := false }, kinds := [], alts := [], laidByText := true, laidKinds := [.data, .pinned], laidTests := true, laidLooks := .later }
def DepfileByCardSaid : Prop := Claim7.holds Tryd.pinned (.plain (OpenSpec.ofChange depfileBySpec)) depfileByCard

/-- THE SECOND FORM's CARD OF 'cruciblelaw7.Wordses'. -/
def wordsesUptoCard : Claim7 := { stood := { row := wordsesUptoRow, standIns := [], harness := (true, "b59b487ca22085fdc14b15dcc6938ae6fb8925f799141a44747c900d56a9d81e"), looks := false }, kinds := [], alts := [], laidByText := true, laidKinds := [.data, .pinned], laidTests := true, laidLooks := .later }
def WordsesUptoCardSaid : Prop := Claim7.holds Tryd.pinned (.plain (OpenSpec.upto wordsesSpec)) wordsesUptoCard

/-- THE SECOND FORM's CARD OF 'cruciblelaw7.WordForms'. -/
def wordFormsUptoCard : Claim7 := { stood := { row := wordFormsUptoRow, standIns := [], harness := (true, "b59b487ca22085fdc14b15dcc6938ae6fb8925f799141a44747c900d56a9d81e"), looks := false }, kinds := [], alts := [], laidByText := true, laidKinds := [.data, .pinned], laidTests := true, laidLooks := .later }
def WordFormsUptoCardSaid : Prop := Claim7.holds Tryd.pinned (.plain (OpenSpec.upto wordFormsSpec)) wordFormsUptoCard

/-- THE SECOND FORM's CARD OF 'cruciblelaw7.WordJoin'. -/
def wordJoinUptoCard : Claim7 := { stood := { row := wordJoinUptoRow, standIns := [], harness := (true, "b59b487ca22085fdc14b15dcc6938ae6fb8925f799141a44747c900d56a9d81e"), looks := false }, kinds := [], alts := [], laidByText := true, laidKinds := [.data, .pinned], laidTests := true, laidLooks := .later }
def WordJoinUptoCardSaid : Prop := Claim7.holds Tryd.pinned (.plain (OpenSpec.upto wordJoinSpec)) wordJoinUptoCard

/-- THE SECOND FORM's CARD OF 'cruciblelaw7.WordAgain'. -/
def wordAgainUptoCard : Claim7 := { stood := { row := wordAgainUptoRow, standIns := [], harness := (true, "b59b487ca22085fdc14b15dcc6938ae6fb8925f799141a44747c900d56a9d81e"), looks := false }, kinds := [], alts := [], laidByText := true, laidKinds := [.data, .pinned], laidTests := true, laidLooks := .later }
def WordAgainUptoCardSaid : Prop := Claim7.holds Tryd.pinned (.plain (OpenSpec.upto wordAgainSpec)) wordAgainUptoCard

/-- THE SECOND FORM's CARD OF 'cruciblelaw2.Paths'. -/
def pathsUptoCard : Claim7 := { stood := { row := pathsUptoRow, standIns := [], harness := (true, "b59b487ca22085fdc14b15dcc6938ae6fb8925f799141a44747c900d56a9d81e"), looks := false }, kinds := [], alts := [], laidByText := true, laidKinds := [.data, .pinned], laidTests := true, laidLooks := .later }
def PathsUptoCardSaid : Prop := Claim7.holds Tryd.pinned (.plain (OpenSpec.upto pathsSpec)) pathsUptoCard

/-- THE SECOND FORM's CARD OF 'cruciblelaw2.PathPieces'. -/
def pathPiecesUptoCard : Claim7 := { stood := { row := pathPiecesUptoRow, standIns := [], harness := (true, "b59b487ca22085fdc14b15dcc6938ae6fb8925f799141a44747c900d56a9d81e"), looks := false }, kinds := [], alts := [], laidByText := true, laidKinds := [.data, .pinned], laidTests := true, laidLooks := .later }
def PathPiecesUptoCardSaid : Prop := Claim7.holds Tryd.pinned (.plain (OpenSpec.upto pathPiecesSpec)) pathPiecesUptoCard

/-- THE SECOND FORM's CARD OF 'cruciblelaw2.PathForms'. -/
def pathFormsUptoCard : Claim7 := { stood := { row := pathFormsUptoRow, standIns := [], harness := (true, "b59b487ca22085fdc14b15dcc6938ae6fb8925f799141a44747c900d56a9d81e"), looks := false }, kinds := [], alts := [], laidByText := true, laidKinds := [.data, .pinned], laidTests := true, laidLooks := .later }
def PathFormsUptoCardSaid : Prop := Claim7.holds Tryd.pinned (.plain (OpenSpec.upto pathFormsSpec)) pathFormsUptoCard

/-- THE SECOND FORM's CARD OF 'cruciblelaw2.PathDots'. -/
def pathDotsUptoCard : Claim7 := { stood := { row := pathDotsUptoRow, standIns := [], harness := (true, "b59b487ca22085fdc14b15dcc6938ae6fb8925f799141a44747c900d56a9d81e"), looks := false }, kinds := [], alts := [], laidByText := true, laidKinds := [.data, .pinned], laidTests := true, laidLooks := .later }
def PathDotsUptoCardSaid : Prop := Claim7.holds Tryd.pinned (.plain (OpenSpec.upto pathDotsSpec)) pathDotsUptoCard

/-- THE SECOND FORM's CARD OF 'cruciblelaw17.Depfiles'. -/
def depfilesUptoCard : Claim7 := { stood := { row := depfilesUptoRow, standIns := [], harness := (true, "b59b487ca22085fdc14b15dcc6938ae6fb8925f799141a44747c900d56a9d81e"), looks := false }, kinds := [], alts := [], laidByText := true, laidKinds := [.data, .pinned], laidTests := true, laidLooks := .later }
def DepfilesUptoCardSaid : Prop := Claim7.holds Tryd.pinned (.plain (OpenSpec.upto depfilesSpec)) depfilesUptoCard

/-- THE SECOND FORM's CARD OF 'cruciblelaw17.DepfileForms'. -/
def depfileFormsUptoCard : Claim7 := { stood := { row := depfileFormsUptoRow, standIns := [], harness := (true, "b59b487ca22085fdc14b15dcc6938ae6fb8925f799141a44747c900d56a9d81e"), looks := false }, kinds := [], alts := [], laidByText := true, laidKinds := [.data, .pinned], laidTests := true, laidLooks := .later }
def DepfileFormsUptoCardSaid : Prop := Claim7.holds Tryd.pinned (.plain (OpenSpec.upto depfileFormsSpec)) depfileFormsUptoCard

/-- THE SECOND FORM's CARD OF 'cruciblelaw17.DepfileUnlike'. -/
def depfileUnlikeUptoCard : Claim7 := { stood := { row := depfileUnlikeUptoRow, standIns := [], harness := (true, "b59b487ca22085fdc14b15dcc6938ae6fb8925f799141a44747c900d56a9d81e"), looks := false }, kinds := [], alts := [], laidByText := true, laidKinds := [.data, .pinned], laidTests := true, laidLooks := .later }
def DepfileUnlikeUptoCardSaid : Prop := Claim7.holds Tryd.pinned (.plain (OpenSpec.upto depfileUnlikeSpec)) depfileUnlikeUptoCard

/-- THE SECOND FORM's CARD OF 'cruciblelaw17.DepfileBy'. -/
def depfileByUptoCard : Claim7 := { stood := { row := depfileByUptoRow, standIns := [], harness := (true, "b59b487ca22085fdc14b15dcc6938ae6fb8925f799141a44747c900d56a9d81e"), looks := false }, kinds := [], alts := [], laidByText := true, laidKinds := [.data, .pinned], laidTests := true, laidLooks := .later }
def DepfileByUptoCardSaid : Prop := Claim7.holds Tryd.pinned (.plain (OpenSpec.upto depfileBySpec)) depfileByUptoCard
end Rows
end Go.Proofs.YtncbloieejeifaaDoor
