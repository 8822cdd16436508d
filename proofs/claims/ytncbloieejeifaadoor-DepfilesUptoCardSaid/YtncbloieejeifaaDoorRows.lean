/-
  NARROWER THAN 'FOR EVERY INPUT', by the rows' own cells (each row's printed sentence says how): Wordses: laid · WordForms: laid · WordJoin: laid · WordAgain: laid · Paths: laid · PathPieces: laid · PathForms: laid · PathDots: laid · Depfiles: laid · DepfileForms: laid · DepfileUnlike: laid · DepfileBy: laid.
  DERIVED. THE GIVEN ROWS OF THIS SEAT. 12 by the template 'for every input the law returns true; each argument reads behind the call as it read before'; 0 by the template 'total and deterministic' (their statements: YtncbloieejeifaaDoorTotals.lean).
  GIVEN WITH THE SEED: the statements are not yours to turn. If you find one false, say at which input.
  Laid BY PROGRAM, IN A SANDBOX (cutbox-rows.mjs): the forced cells as the released guide's own fill.sh prints them over the translation 2451e82f178e10a1… (all of the seat's roots in one cut). By AI agents, Wed Nov 11 2026. No macro, syntax, notation, axiom, sorry.
-/
import Derived.Test.YtncbloieejeifaaDoorChecked
import GoSem.PinnedTables
import GoSem.Claim
import GoSem.ClaimJoined
import GoSem.ClaimMapViews
import Derived.JoinedTies
import Derived.KernelRfl
namespace Go.Proofs.YtncbloieejeifaaDoor
/- THE CELL 'sum', in the pinned program and in every row, IS THE sha256 OF THE DUMP (.gsa) THAT YtncbloieejeifaaDoorProg.lean LOADS. Nothing in Lean hashes anything: it is a label: what it is worth is what the hold of that sum in a sandbox is worth. -/
noncomputable def Tryd.pinned : Pinned := { name := "ytncbloieejeifaadoor", sum := "2451e82f178e10a19be2eb3f5fdf238df2cb9b765a7e81ebdc285a564a794623", checked := Tryd.checked }
namespace Rows
def none {H : Type} : Left H := { results := [], args := [] }

/- WHAT THE LISTED PACKAGE-LEVEL VARIABLES READ AS WHEN THE CALL BEGINS. Each datum BY PROGRAM (the guide's laid-datum.mjs) off the statement by which the dump's own 'gosem.cut.vars' lays the variable. In a bare row this is a premise. The card (YtncbloieejeifaaDoorCards.lean) ties it to the program's text. -/
def laid_unicode_utf8_acceptRanges {H : Type} : DataW H := .agg [.agg [.lit (.int .u8 128), .lit (.int .u8 191)], .agg [.lit (.int .u8 160), .lit (.int .u8 191)], .agg [.lit (.int .u8 128), .lit (.int .u8 159)], .agg [.lit (.int .u8 144), .lit (.int .u8 191)], .agg [.lit (.int .u8 128), .lit (.int .u8 143)], .agg [.lit (.int .u8 0), .lit (.int .u8 0)], .agg [.lit (.int .u8 0), .lit (.int .u8 0)], .agg [.lit (.int .u8 0), .lit (.int .u8 0)], .agg [.lit (.int .u8 0), .lit (.int .u8 0)], .agg [.lit (.int .u8 0), .lit (.int .u8 0)], .agg [.lit (.int .u8 0), .lit (.int .u8 0)], .agg [.lit (.int .u8 0), .lit (.int .u8 0)], .agg [.lit (.int .u8 0), .lit (.int .u8 0)], .agg [.lit (.int .u8 0), .lit (.int .u8 0)], .agg [.lit (.int .u8 0), .lit (.int .u8 0)], .agg [.lit (.int .u8 0), .lit (.int .u8 0)]]
/-- One of Go's own tables, pinned by name: the form's constant. -/
def laid_unicode_utf8_first : DataW Unit := Go.Pinned.utf8First

/-- 'cruciblelaw7.Wordses': WHATEVER THE INPUT: true; the input reads as it did. -/
def wordsesSpec : ChangeSpec := { name := "wordses", fn := fun _ => fun
  | [d] => { results := [.lit (.bool true)], args := [d] }
  | _ => none }
def wordsesRow : OpenClaim := { program := "ytncbloieejeifaadoor", sum := "2451e82f178e10a19be2eb3f5fdf238df2cb9b765a7e81ebdc285a564a794623", func := "crucible/cruciblelaw7.Wordses", spec := "wordses", inPlace := ["internal/bytealg.CountString", "internal/bytealg.IndexByteString", "internal/bytealg.IndexString"], unfollowed := true, recurses := true, named := ["unicode/utf8.first", "unicode/utf8.acceptRanges", "internal/bytealg.MaxLen"], apart := false, laid := [("unicode/utf8.acceptRanges", laid_unicode_utf8_acceptRanges), ("unicode/utf8.first", laid_unicode_utf8_first)] }
def WordsesSaid : Prop := wordsesRow.holds Tryd.pinned (OpenSpec.ofChange wordsesSpec)

/-- ITS FALSE NEIGHBOUR: 'it returns false'. Refute it at one input. -/
def wordsesWrong : ChangeSpec := { name := "wordses", fn := fun _ => fun
  | [d] => { results := [.lit (.bool false)], args := [d] }
  | _ => none }
def WordsesWrongFalsely : Prop := wordsesRow.holds Tryd.pinned (OpenSpec.ofChange wordsesWrong)

/-- 'cruciblelaw7.WordForms': WHATEVER THE INPUT: true; the input reads as it did. -/
def wordFormsSpec : ChangeSpec := { name := "wordForms", fn := fun _ => fun
  | [d] => { results := [.lit (.bool true)], args := [d] }
  | _ => none }
def wordFormsRow : OpenClaim := { program := "ytncbloieejeifaadoor", sum := "2451e82f178e10a19be2eb3f5fdf238df2cb9b765a7e81ebdc285a564a794623", func := "crucible/cruciblelaw7.WordForms", spec := "wordForms", inPlace := ["internal/bytealg.CountString", "internal/bytealg.IndexByteString", "internal/bytealg.IndexString"], unfollowed := true, recurses := true, named := ["unicode/utf8.first", "unicode/utf8.acceptRanges", "internal/bytealg.MaxLen"], apart := false, laid := [("unicode/utf8.acceptRanges", laid_unicode_utf8_acceptRanges), ("unicode/utf8.first", laid_unicode_utf8_first)] }
def WordFormsSaid : Prop := wordFormsRow.holds Tryd.pinned (OpenSpec.ofChange wordFormsSpec)

/-- ITS FALSE NEIGHBOUR: 'it returns false'. Refute it at one input. -/
def wordFormsWrong : ChangeSpec := { name := "wordForms", fn := fun _ => fun
  | [d] => { results := [.lit (.bool false)], args := [d] }
  | _ => none }
def WordFormsWrongFalsely : Prop := wordFormsRow.holds Tryd.pinned (OpenSpec.ofChange wordFormsWrong)

/-- 'cruciblelaw7.WordJoin': WHATEVER THE INPUT: true; the input reads as it did. -/
def wordJoinSpec : ChangeSpec := { name := "wordJoin", fn := fun _ => fun
  | [d1, d2, d3, d4, d5] => { results := [.lit (.bool true)], args := [d1, d2, d3, d4, d5] }
  | _ => none }
def wordJoinRow : OpenClaim := { program := "ytncbloieejeifaadoor", sum := "2451e82f178e10a19be2eb3f5fdf238df2cb9b765a7e81ebdc285a564a794623", func := "crucible/cruciblelaw7.WordJoin", spec := "wordJoin", inPlace := ["internal/bytealg.CountString", "internal/bytealg.IndexByteString", "internal/bytealg.IndexString"], unfollowed := true, recurses := true, named := ["unicode/utf8.first", "unicode/utf8.acceptRanges", "internal/bytealg.MaxLen"], apart := false, laid := [("unicode/utf8.acceptRanges", laid_unicode_utf8_acceptRanges), ("unicode/utf8.first", laid_unicode_utf8_first)] }
def WordJoinSaid : Prop := wordJoinRow.holds Tryd.pinned (OpenSpec.ofChange wordJoinSpec)

/-- ITS FALSE NEIGHBOUR: 'it returns false'. Refute it at one input. -/
def wordJoinWrong : ChangeSpec := { name := "wordJoin", fn := fun _ => fun
  | [d1, d2, d3, d4, d5] => { results := [.lit (.bool false)], args := [d1, d2, d3, d4, d5] }
  | _ => none }
def WordJoinWrongFalsely : Prop := wordJoinRow.holds Tryd.pinned (OpenSpec.ofChange wordJoinWrong)

/-- 'cruciblelaw7.WordAgain': WHATEVER THE INPUT: true; the input reads as it did. -/
def wordAgainSpec : ChangeSpec := { name := "wordAgain", fn := fun _ => fun
  | [d] => { results := [.lit (.bool true)], args := [d] }
  | _ => none }
def wordAgainRow : OpenClaim := { program := "ytncbloieejeifaadoor", sum := "2451e82f178e10a19be2eb3f5fdf238df2cb9b765a7e81ebdc285a564a794623", func := "crucible/cruciblelaw7.WordAgain", spec := "wordAgain", inPlace := ["internal/bytealg.CountString", "internal/bytealg.IndexByteString", "internal/bytealg.IndexString"], unfollowed := true, recurses := true, named := ["unicode/utf8.first", "unicode/utf8.acceptRanges", "internal/bytealg.MaxLen"], apart := false, laid := [("unicode/utf8.acceptRanges", laid_unicode_utf8_acceptRanges), ("unicode/utf8.first", laid_unicode_utf8_first)] }
def WordAgainSaid : Prop := wordAgainRow.holds Tryd.pinned (OpenSpec.ofChange wordAgainSpec)

/-- ITS FALSE NEIGHBOUR: 'it returns false'. Refute it at one input. -/
def wordAgainWrong : ChangeSpec := { name := "wordAgain", fn := fun _ => fun
  | [d] => { results := [.lit (.bool false)], args := [d] }
  | _ => none }
def WordAgainWrongFalsely : Prop := wordAgainRow.holds Tryd.pinned (OpenSpec.ofChange wordAgainWrong)

/-- 'cruciblelaw2.Paths': WHATEVER THE INPUT: true; the input reads as it did. -/
def pathsSpec : ChangeSpec := { name := "paths", fn := fun _ => fun
  | [d] => { results := [.lit (.bool true)], args := [d] }
  | _ => none }
def pathsRow : OpenClaim := { program := "ytncbloieejeifaadoor", sum := "2451e82f178e10a19be2eb3f5fdf238df2cb9b765a7e81ebdc285a564a794623", func := "crucible/cruciblelaw2.Paths", spec := "paths", inPlace := ["internal/bytealg.IndexByteString", "internal/bytealg.IndexString", "internal/bytealg.CountString", "internal/abi.NoEscape", "internal/bytealg.MakeNoZero"], unfollowed := true, recurses := true, named := ["unicode/utf8.first", "unicode/utf8.acceptRanges", "internal/bytealg.MaxLen"], apart := false, laid := [("unicode/utf8.acceptRanges", laid_unicode_utf8_acceptRanges), ("unicode/utf8.first", laid_unicode_utf8_first)] }
def PathsSaid : Prop := pathsRow.holds Tryd.pinned (OpenSpec.ofChange pathsSpec)

/-- ITS FALSE NEIGHBOUR: 'it returns false'. Refute it at one input. -/
def pathsWrong : ChangeSpec := { name := "paths", fn := fun _ => fun
  | [d] => { results := [.lit (.bool false)], args := [d] }
  | _ => none }
def PathsWrongFalsely : Prop := pathsRow.holds Tryd.pinned (OpenSpec.ofChange pathsWrong)

/-- 'cruciblelaw2.PathPieces': WHATEVER THE INPUT: true; the input reads as it did. -/
def pathPiecesSpec : ChangeSpec := { name := "pathPieces", fn := fun _ => fun
  | [d] => { results := [.lit (.bool true)], args := [d] }
  | _ => none }
def pathPiecesRow : OpenClaim := { program := "ytncbloieejeifaadoor", sum := "2451e82f178e10a19be2eb3f5fdf238df2cb9b765a7e81ebdc285a564a794623", func := "crucible/cruciblelaw2.PathPieces", spec := "pathPieces", inPlace := ["internal/bytealg.IndexByteString", "internal/bytealg.IndexString", "internal/bytealg.CountString", "internal/abi.NoEscape", "internal/bytealg.MakeNoZero"], unfollowed := true, recurses := true, named := ["unicode/utf8.first", "unicode/utf8.acceptRanges", "internal/bytealg.MaxLen"], apart := false, laid := [("unicode/utf8.acceptRanges", laid_unicode_utf8_acceptRanges), ("unicode/utf8.first", laid_unicode_utf8_first)] }
def PathPiecesSaid : Prop := pathPiecesRow.holds Tryd.pinned (OpenSpec.ofChange pathPiecesSpec)

/-- ITS FALSE NEIGHBOUR: 'it returns false'. Refute it at one input. -/
def pathPiecesWrong : ChangeSpec := { name := "pathPieces", fn := fun _ => fun
  | [d] => { results := [.lit (.bool false)], args := [d] }
  | _ => none }
def PathPiecesWrongFalsely : Prop := pathPiecesRow.holds Tryd.pinned (OpenSpec.ofChange pathPiecesWrong)

/-- 'cruciblelaw2.PathForms': WHATEVER THE INPUT: true; the input reads as it did. -/
def pathFormsSpec : ChangeSpec := { name := "pathForms", fn := fun _ => fun
  | [d] => { results := [.lit (.bool true)], args := [d] }
  | _ => none }
def pathFormsRow : OpenClaim := { program := "ytncbloieejeifaadoor", sum := "2451e82f178e10a19be2eb3f5fdf238df2cb9b765a7e81ebdc285a564a794623", func := "crucible/cruciblelaw2.PathForms", spec := "pathForms", inPlace := ["internal/bytealg.IndexByteString", "internal/bytealg.IndexString", "internal/bytealg.CountString", "internal/abi.NoEscape", "internal/bytealg.MakeNoZero"], unfollowed := true, recurses := true, named := ["unicode/utf8.first", "unicode/utf8.acceptRanges", "internal/bytealg.MaxLen"], apart := false, laid := [("unicode/utf8.acceptRanges", laid_unicode_utf8_acceptRanges), ("unicode/utf8.first", laid_unicode_utf8_first)] }
def PathFormsSaid : Prop := pathFormsRow.holds Tryd.pinned (OpenSpec.ofChange pathFormsSpec)

/-- ITS FALSE NEIGHBOUR: 'it returns false'. Refute it at one input. -/
def pathFormsWrong : ChangeSpec := { name := "pathForms", fn := fun _ => fun
  | [d] => { results := [.lit (.bool false)], args := [d] }
  | _ => none }
def PathFormsWrongFalsely : Prop := pathFormsRow.holds Tryd.pinned (OpenSpec.ofChange pathFormsWrong)

/-- 'cruciblelaw2.PathDots': WHATEVER THE INPUT: true; the input reads as it did. -/
def pathDotsSpec : ChangeSpec := { name := "pathDots", fn := fun _ => fun
  | [d1, d2] => { results := [.lit (.bool true)], args := [d1, d2] }
  | _ => none }
def pathDotsRow : OpenClaim := { program := "ytncbloieejeifaadoor", sum := "2451e82f178e10a19be2eb3f5fdf238df2cb9b765a7e81ebdc285a564a794623", func := "crucible/cruciblelaw2.PathDots", spec := "pathDots", inPlace := ["internal/bytealg.IndexByteString", "internal/bytealg.IndexString", "internal/bytealg.CountString", "internal/abi.NoEscape", "internal/bytealg.MakeNoZero"], unfollowed := true, recurses := true, named := ["unicode/utf8.first", "unicode/utf8.acceptRanges", "internal/bytealg.MaxLen"], apart := false, laid := [("unicode/utf8.acceptRanges", laid_unicode_utf8_acceptRanges), ("unicode/utf8.first", laid_unicode_utf8_first)] }
def PathDotsSaid : Prop := pathDotsRow.holds Tryd.pinned (OpenSpec.ofChange pathDotsSpec)

/-- ITS FALSE NEIGHBOUR: 'it returns false'. Refute it at one input. -/
def pathDotsWrong : ChangeSpec := { name := "pathDots", fn := fun _ => fun
  | [d1, d2] => { results := [.lit (.bool false)], args := [d1, d2] }
  | _ => none }
def PathDotsWrongFalsely : Prop := pathDotsRow.holds Tryd.pinned (OpenSpec.ofChange pathDotsWrong)

/-- 'cruciblelaw17.Depfiles': WHATEVER THE INPUT: true; the input reads as it did. -/
def depfilesSpec : ChangeSpec := { name := "depfiles", fn := fun _ => fun
  | [d1, d2, d3] => { results := [.lit (.bool true)], args := [d1, d2, d3] }
  | _ => none }
def depfilesRow : OpenClaim := { program := "ytncbloieejeifaadoor", sum := "2451e82f178e10a19be2eb3f5fdf238df2cb9b765a7e81ebdc285a564a794623", func := "crucible/cruciblelaw17.Depfiles", spec := "depfiles", inPlace := ["internal/bytealg.IndexByteString", "internal/bytealg.IndexString", "internal/bytealg.CountString", "internal/abi.NoEscape", "internal/bytealg.MakeNoZero"], unfollowed := true, recurses := true, named := ["unicode/utf8.first", "unicode/utf8.acceptRanges", "internal/bytealg.MaxLen"], apart := false, laid := [("unicode/utf8.acceptRanges", laid_unicode_utf8_acceptRanges), ("unicode/utf8.first", laid_unicode_utf8_first)] }
def DepfilesSaid : Prop := depfilesRow.holds Tryd.pinned (OpenSpec.ofChange depfilesSpec)

/-- ITS FALSE NEIGHBOUR: 'it returns false'. Refute it at one input. -/
def depfilesWrong : ChangeSpec := { name := "depfiles", fn := fun _ => fun
  | [d1, d2, d3] => { results := [.lit (.bool false)], args := [d1, d2, d3] }
  | _ => none }
def DepfilesWrongFalsely : Prop := depfilesRow.holds Tryd.pinned (OpenSpec.ofChange depfilesWrong)

/-- 'cruciblelaw17.DepfileForms': WHATEVER THE INPUT: true; the input reads as it did. -/
def depfileFormsSpec : ChangeSpec := { name := "depfileForms", fn := fun _ => fun
  | [d] => { results := [.lit (.bool true)], args := [d] }
  | _ => none }
def depfileFormsRow : OpenClaim := { program := "ytncbloieejeifaadoor", sum := "2451e82f178e10a19be2eb3f5fdf238df2cb9b765a7e81ebdc285a564a794623", func := "crucible/cruciblelaw17.DepfileForms", spec := "depfileForms", inPlace := ["internal/bytealg.IndexByteString", "internal/bytealg.IndexString", "internal/bytealg.CountString", "internal/abi.NoEscape", "internal/bytealg.MakeNoZero"], unfollowed := true, recurses := true, named := ["unicode/utf8.first", "unicode/utf8.acceptRanges", "internal/bytealg.MaxLen"], apart := false, laid := [("unicode/utf8.acceptRanges", laid_unicode_utf8_acceptRanges), ("unicode/utf8.first", laid_unicode_utf8_first)] }
def DepfileFormsSaid : Prop := depfileFormsRow.holds Tryd.pinned (OpenSpec.ofChange depfileFormsSpec)

/-- ITS FALSE NEIGHBOUR: 'it returns false'. Refute it at one input. -/
def depfileFormsWrong : ChangeSpec := { name := "depfileForms", fn := fun _ => fun
  | [d] => { results := [.lit (.bool false)], args := [d] }
  | _ => none }
def DepfileFormsWrongFalsely : Prop := depfileFormsRow.holds Tryd.pinned (OpenSpec.ofChange depfileFormsWrong)

/-- 'cruciblelaw17.DepfileUnlike': WHATEVER THE INPUT: true; the input reads as it did. -/
def depfileUnlikeSpec : ChangeSpec := { name := "depfileUnlike", fn := fun _ => fun
  | [d1, d2, d3, d4] => { results := [.lit (.bool true)], args := [d1, d2, d3, d4] }
  | _ => none }
def depfileUnlikeRow : OpenClaim := { program := "ytncbloieejeifaadoor", sum := "2451e82f178e10a19be2eb3f5fdf238df2cb9b765a7e81ebdc285a564a794623", func := "crucible/cruciblelaw17.DepfileUnlike", spec := "depfileUnlike", inPlace := ["internal/bytealg.IndexByteString", "internal/bytealg.IndexString", "internal/bytealg.CountString", "internal/abi.NoEscape", "internal/bytealg.MakeNoZero"], unfollowed := true, recurses := true, named := ["unicode/utf8.first", "unicode/utf8.acceptRanges", "internal/bytealg.MaxLen"], apart := false, laid := [("unicode/utf8.acceptRanges", laid_unicode_utf8_acceptRanges), ("unicode/utf8.first", laid_unicode_utf8_first)] }
def DepfileUnlikeSaid : Prop := depfileUnlikeRow.holds Tryd.pinned (OpenSpec.ofChange depfileUnlikeSpec)

/-- ITS FALSE NEIGHBOUR: 'it returns false'. Refute it at one input. -/
def depfileUnlikeWrong : ChangeSpec := { name := "depfileUnlike", fn := fun _ => fun
  | [d1, d2, d3, d4] => { results := [.lit (.bool false)], args := [d1, d2, d3, d4] }
  | _ => none }
def DepfileUnlikeWrongFalsely : Prop := depfileUnlikeRow.holds Tryd.pinned (OpenSpec.ofChange depfileUnlikeWrong)

/-- 'cruciblelaw17.DepfileBy': WHATEVER THE INPUT: true; the input reads as it did. -/
def depfileBySpec : ChangeSpec := { name := "depfileBy", fn := fun _ => fun
  | [d] => { results := [.lit (.bool true)], args := [d] }
  | _ => none }
def depfileByRow : OpenClaim := { program := "ytncbloieejeifaadoor", sum := "2451e82f178e10a19be2eb3f5fdf238df2cb9b765a7e81ebdc285a564a794623", func := "crucible/cruciblelaw17.DepfileBy", spec := "depfileBy", inPlace := ["internal/bytealg.IndexByteString", "internal/bytealg.IndexString", "internal/bytealg.CountString", "internal/abi.NoEscape", "internal/bytealg.MakeNoZero"], unfollowed := true, recurses := true, named := ["unicode/utf8.first", "unicode/utf8.acceptRanges", "internal/bytealg.MaxLen"], apart := false, laid := [("unicode/utf8.acceptRanges", laid_unicode_utf8_acceptRanges), ("unicode/utf8.first", laid_unicode_utf8_first)] }
def DepfileBySaid : Prop := depfileByRow.holds Tryd.pinned (OpenSpec.ofChange depfileBySpec)

/-- ITS FALSE NEIGHBOUR: 'it returns false'. Refute it at one input. -/
def depfileByWrong : ChangeSpec := { name := "depfileBy", fn := fun _ => fun
  | [d] => { results := [.lit (.bool false)], args := [d] }
  | _ => none }
def DepfileByWrongFalsely : Prop := depfileByRow.holds Tryd.pinned (OpenSpec.ofChange depfileByWrong)

/- THE SECOND FORM. 'bulk': how many values and letters a reading holds, each counted each time it is reached (what is shared counts as often as it is met; a slice's spare places count too). A statement '..UptoSaid' is the law's where the arguments, and the package variables that the reading takes, are together of bulk at most 1048576: NARROWER than '..Said'. Prove '..Said' where nothing that the law and all that it calls make is longer than what came in: it says more and counts as full. Else prove '..UptoSaid'. A law counts once. -/
mutual
def uptoBulk {H : Type} : DataW H → Nat
  | .lit (.string bytes) => bytes.length + 1
  | .lit _ => 1
  | .nil => 1
  | .ptr d => uptoBulk d + 1
  | .slice elems spare => uptoBulkAll elems + uptoBulkAll spare + 1
  | .agg parts => uptoBulkAll parts + 1
  | .iface _ d => uptoBulk d + 1
  | .map entries => uptoBulkEntries entries + 1
  | .held _ => 1
def uptoBulkAll {H : Type} : List (DataW H) → Nat
  | [] => 0
  | d :: r => uptoBulk d + uptoBulkAll r
def uptoBulkEntries {H : Type} : List (Lit × DataW H) → Nat
  | [] => 0
  | x :: r => uptoBulkEntry x + uptoBulkEntries r
def uptoBulkEntry {H : Type} : Lit × DataW H → Nat
  | (.string bytes, d) => bytes.length + uptoBulk d + 1
  | (_, d) => uptoBulk d + 1
 end
def uptoSmall : (H : Type) → List (DataW H) → Bool := fun _ ds => decide (uptoBulkAll ds ≤ 1048576)
def OpenSpec.upto (s : _root_.Go.ChangeSpec) : _root_.Go.OpenSpec := { _root_.Go.OpenSpec.ofChange s with cond := some uptoSmall }

/-- 'cruciblelaw7.Wordses', WHERE WHAT IT READS IS OF BULK AT MOST 1048576: true; the input reads as it did. -/
def wordsesUptoRow : OpenClaim := { program := "ytncbloieejeifaadoor", sum := "2451e82f178e10a19be2eb3f5fdf238df2cb9b765a7e81ebdc285a564a794623", func := "crucible/cruciblelaw7.Wordses", spec := "wordses", inPlace := ["internal/bytealg.CountString", "internal/bytealg.IndexByteString", "internal/bytealg.IndexString"], unfollowed := true, recurses := true, named := ["unicode/utf8.first", "unicode/utf8.acceptRanges", "internal/bytealg.MaxLen"], apart := false, laid := [("unicode/utf8.acceptRanges", laid_unicode_utf8_acceptRanges), ("unicode/utf8.first", laid_unicode_utf8_first)], narrowed := true }
def WordsesUptoSaid : Prop := wordsesUptoRow.holds Tryd.pinned (OpenSpec.upto wordsesSpec)

/-- 'cruciblelaw7.WordForms', WHERE WHAT IT READS IS OF BULK AT MOST 1048576: true; the input reads as it did. -/
def wordFormsUptoRow : OpenClaim := { program := "ytncbloieejeifaadoor", sum := "2451e82f178e10a19be2eb3f5fdf238df2cb9b765a7e81ebdc285a564a794623", func := "crucible/cruciblelaw7.WordForms", spec := "wordForms", inPlace := ["internal/bytealg.CountString", "internal/bytealg.IndexByteString", "internal/bytealg.IndexString"], unfollowed := true, recurses := true, named := ["unicode/utf8.first", "unicode/utf8.acceptRanges", "internal/bytealg.MaxLen"], apart := false, laid := [("unicode/utf8.acceptRanges", laid_unicode_utf8_acceptRanges), ("unicode/utf8.first", laid_unicode_utf8_first)], narrowed := true }
def WordFormsUptoSaid : Prop := wordFormsUptoRow.holds Tryd.pinned (OpenSpec.upto wordFormsSpec)

/-- 'cruciblelaw7.WordJoin', WHERE WHAT IT READS IS OF BULK AT MOST 1048576: true; the input reads as it did. -/
def wordJoinUptoRow : OpenClaim := { program := "ytncbloieejeifaadoor", sum := "2451e82f178e10a19be2eb3f5fdf238df2cb9b765a7e81ebdc285a564a794623", func := "crucible/cruciblelaw7.WordJoin", spec := "wordJoin", inPlace := ["internal/bytealg.CountString", "internal/bytealg.IndexByteString", "internal/bytealg.IndexString"], unfollowed := true, recurses := true, named := ["unicode/utf8.first", "unicode/utf8.acceptRanges", "internal/bytealg.MaxLen"], apart := false, laid := [("unicode/utf8.acceptRanges", laid_unicode_utf8_acceptRanges), ("unicode/utf8.first", laid_unicode_utf8_first)], narrowed := true }
def WordJoinUptoSaid : Prop := wordJoinUptoRow.holds Tryd.pinned (OpenSpec.upto wordJoinSpec)

/-- 'cruciblelaw7.WordAgain', WHERE WHAT IT READS IS OF BULK AT MOST 1048576: true; the input reads as it did. -/
def wordAgainUptoRow : OpenClaim := { program := "ytncbloieejeifaadoor", sum := "2451e82f178e10a19be2eb3f5fdf238df2cb9b765a7e81ebdc285a564a794623", func := "crucible/cruciblelaw7.WordAgain", spec := "wordAgain", inPlace := ["internal/bytealg.CountString", "internal/bytealg.IndexByteString", "internal/bytealg.IndexString"], unfollowed := true, recurses := true, named := ["unicode/utf8.first", "unicode/utf8.acceptRanges", "internal/bytealg.MaxLen"], apart := false, laid := [("unicode/utf8.acceptRanges", laid_unicode_utf8_acceptRanges), ("unicode/utf8.first", laid_unicode_utf8_first)], narrowed := true }
def WordAgainUptoSaid : Prop := wordAgainUptoRow.holds Tryd.pinned (OpenSpec.upto wordAgainSpec)

/-- 'cruciblelaw2.Paths', WHERE WHAT IT READS IS OF BULK AT MOST 1048576: true; the input reads as it did. -/
def pathsUptoRow : OpenClaim := { program := "ytncbloieejeifaadoor", sum := "2451e82f178e10a19be2eb3f5fdf238df2cb9b765a7e81ebdc285a564a794623", func := "crucible/cruciblelaw2.Paths", spec := "paths", inPlace := ["internal/bytealg.IndexByteString", "internal/bytealg.IndexString", "internal/bytealg.CountString", "internal/abi.NoEscape", "internal/bytealg.MakeNoZero"], unfollowed := true, recurses := true, named := ["unicode/utf8.first", "unicode/utf8.acceptRanges", "internal/bytealg.MaxLen"], apart := false, laid := [("unicode/utf8.acceptRanges", laid_unicode_utf8_acceptRanges), ("unicode/utf8.first", laid_unicode_utf8_first)], narrowed := true }
def PathsUptoSaid : Prop := pathsUptoRow.holds Tryd.pinned (OpenSpec.upto pathsSpec)

/-- 'cruciblelaw2.PathPieces', WHERE WHAT IT READS IS OF BULK AT MOST 1048576: true; the input reads as it did. -/
def pathPiecesUptoRow : OpenClaim := { program := "ytncbloieejeifaadoor", sum := "2451e82f178e10a19be2eb3f5fdf238df2cb9b765a7e81ebdc285a564a794623", func := "crucible/cruciblelaw2.PathPieces", spec := "pathPieces", inPlace := ["internal/bytealg.IndexByteString", "internal/bytealg.IndexString", "internal/bytealg.CountString", "internal/abi.NoEscape", "internal/bytealg.MakeNoZero"], unfollowed := true, recurses := true, named := ["unicode/utf8.first", "unicode/utf8.acceptRanges", "internal/bytealg.MaxLen"], apart := false, laid := [("unicode/utf8.acceptRanges", laid_unicode_utf8_acceptRanges), ("unicode/utf8.first", laid_unicode_utf8_first)], narrowed := true }
def PathPiecesUptoSaid : Prop := pathPiecesUptoRow.holds Tryd.pinned (OpenSpec.upto pathPiecesSpec)

/-- 'cruciblelaw2.PathForms', WHERE WHAT IT READS IS OF BULK AT MOST 1048576: true; the input reads as it did. -/
def pathFormsUptoRow : OpenClaim := { program := "ytncbloieejeifaadoor", sum := "2451e82f178e10a19be2eb3f5fdf238df2cb9b765a7e81ebdc285a564a794623", func := "crucible/cruciblelaw2.PathForms", spec := "pathForms", inPlace := ["internal/bytealg.IndexByteString", "internal/bytealg.IndexString", "internal/bytealg.CountString", "internal/abi.NoEscape", "internal/bytealg.MakeNoZero"], unfollowed := true, recurses := true, named := ["unicode/utf8.first", "unicode/utf8.acceptRanges", "internal/bytealg.MaxLen"], apart := false, laid := [("unicode/utf8.acceptRanges", laid_unicode_utf8_acceptRanges), ("unicode/utf8.first", laid_unicode_utf8_first)], narrowed := true }
def PathFormsUptoSaid : Prop := pathFormsUptoRow.holds Tryd.pinned (OpenSpec.upto pathFormsSpec)

/-- 'cruciblelaw2.PathDots', WHERE WHAT IT READS IS OF BULK AT MOST 1048576: true; the input reads as it did. -/
def pathDotsUptoRow : OpenClaim := { program := "ytncbloieejeifaadoor", sum := "2451e82f178e10a19be2eb3f5fdf238df2cb9b765a7e81ebdc285a564a794623", func := "crucible/cruciblelaw2.PathDots", spec := "pathDots", inPlace := ["internal/bytealg.IndexByteString", "internal/bytealg.IndexString", "internal/bytealg.CountString", "internal/abi.NoEscape", "internal/bytealg.MakeNoZero"], unfollowed := true, recurses := true, named := ["unicode/utf8.first", "unicode/utf8.acceptRanges", "internal/bytealg.MaxLen"], apart := false, laid := [("unicode/utf8.acceptRanges", laid_unicode_utf8_acceptRanges), ("unicode/utf8.first", laid_unicode_utf8_first)], narrowed := true }
def PathDotsUptoSaid : Prop := pathDotsUptoRow.holds Tryd.pinned (OpenSpec.upto pathDotsSpec)

/-- 'cruciblelaw17.Depfiles', WHERE WHAT IT READS IS OF BULK AT MOST 1048576: true; the input reads as it did. -/
def depfilesUptoRow : OpenClaim := { program := "ytncbloieejeifaadoor", sum := "2451e82f178e10a19be2eb3f5fdf238df2cb9b765a7e81ebdc285a564a794623", func := "crucible/cruciblelaw17.Depfiles", spec := "depfiles", inPlace := ["internal/bytealg.IndexByteString", "internal/bytealg.IndexString", "internal/bytealg.CountString", "internal/abi.NoEscape", "internal/bytealg.MakeNoZero"], unfollowed := true, recurses := true, named := ["unicode/utf8.first", "unicode/utf8.acceptRanges", "internal/bytealg.MaxLen"], apart := false, laid := [("unicode/utf8.acceptRanges", laid_unicode_utf8_acceptRanges), ("unicode/utf8.first", laid_unicode_utf8_first)], narrowed := true }
def DepfilesUptoSaid : Prop := depfilesUptoRow.holds Tryd.pinned (OpenSpec.upto depfilesSpec)

/-- 'cruciblelaw17.DepfileForms', WHERE WHAT IT READS IS OF BULK AT MOST 1048576: true; the input reads as it did. -/
def depfileFormsUptoRow : OpenClaim := { program := "ytncbloieejeifaadoor", sum := "2451e82f178e10a19be2eb3f5fdf238df2cb9b765a7e81ebdc285a564a794623", func := "crucible/cruciblelaw17.DepfileForms", spec := "depfileForms", inPlace := ["internal/bytealg.IndexByteString", "internal/bytealg.IndexString", "internal/bytealg.CountString", "internal/abi.NoEscape", "internal/bytealg.MakeNoZero"], unfollowed := true, recurses := true, named := ["unicode/utf8.first", "unicode/utf8.acceptRanges", "internal/bytealg.MaxLen"], apart := false, laid := [("unicode/utf8.acceptRanges", laid_unicode_utf8_acceptRanges), ("unicode/utf8.first", laid_unicode_utf8_first)], narrowed := true }
def DepfileFormsUptoSaid : Prop := depfileFormsUptoRow.holds Tryd.pinned (OpenSpec.upto depfileFormsSpec)

/-- 'cruciblelaw17.DepfileUnlike', WHERE WHAT IT READS IS OF BULK AT MOST 1048576: true; the input reads as it did. -/
def depfileUnlikeUptoRow : OpenClaim := { program := "ytncbloieejeifaadoor", sum := "2451e82f178e10a19be2eb3f5fdf238df2cb9b765a7e81ebdc285a564a794623", func := "crucible/cruciblelaw17.DepfileUnlike", spec := "depfileUnlike", inPlace := ["internal/bytealg.IndexByteString", "internal/bytealg.IndexString", "internal/bytealg.CountString", "internal/abi.NoEscape", "internal/bytealg.MakeNoZero"], unfollowed := true, recurses := true, named := ["unicode/utf8.first", "unicode/utf8.acceptRanges", "internal/bytealg.MaxLen"], apart := false, laid := [("unicode/utf8.acceptRanges", laid_unicode_utf8_acceptRanges), ("unicode/utf8.first", laid_unicode_utf8_first)], narrowed := true }
def DepfileUnlikeUptoSaid : Prop := depfileUnlikeUptoRow.holds Tryd.pinned (OpenSpec.upto depfileUnlikeSpec)

/-- 'cruciblelaw17.DepfileBy', WHERE WHAT IT READS IS OF BULK AT MOST 1048576: true; the input reads as it did. -/
def depfileByUptoRow : OpenClaim := { program := "ytncbloieejeifaadoor", sum := "2451e82f178e10a19be2eb3f5fdf238df2cb9b765a7e81ebdc285a564a794623", func := "crucible/cruciblelaw17.DepfileBy", spec := "depfileBy", inPlace := ["internal/bytealg.IndexByteString", "internal/bytealg.IndexString", "internal/bytealg.CountString", "internal/abi.NoEscape", "internal/bytealg.MakeNoZero"], unfollowed := true, recurses := true, named := ["unicode/utf8.first", "unicode/utf8.acceptRanges", "internal/bytealg.MaxLen"], apart := false, laid := [("unicode/utf8.acceptRanges", laid_unicode_utf8_acceptRanges), ("unicode/utf8.first", laid_unicode_utf8_first)], narrowed := true }
def DepfileByUptoSaid : Prop := depfileByUptoRow.holds Tryd.pinned (OpenSpec.upto depfileBySpec)

end Rows
end Go.Proofs.YtncbloieejeifaaDoor
