/-
  NARROWER THAN 'FOR EVERY INPUT', by the rows' own cells (each row's printed sentence says how): Commands: laid · CommandForms: laid · CommandReads: laid · CommandSum: laid · CommandOrder: laid · CommandFirst: laid · Disks: laid · DiskForms: laid · DiskMany: laid · DiskOther: laid · DiskRow: laid · DiskTimes: laid.
  DERIVED. THE GIVEN ROWS OF THIS SEAT. 12 by the template 'for every input the law returns true; each argument reads behind the call as it read before'; 0 by the template 'total and deterministic' (their statements: YtilnamobmjngbaaDoorTotals.lean).
  GIVEN WITH THE SEED: the statements are not yours to turn. If you find one false, say at which input.
  Laid BY PROGRAM, IN A SANDBOX (cutbox-rows.mjs): the forced cells as the released guide's own fill.sh prints them over the translation 5735d0e763520f40… (all of the seat's roots in one cut). By AI agents, Wed Nov 11 2026. No macro, syntax, notation, axiom, sorry.
-/
import Derived.Test.YtilnamobmjngbaaDoorChecked
import GoSem.PinnedTables
import GoSem.Claim
import GoSem.ClaimJoined
import GoSem.ClaimMapViews
import Derived.JoinedTies
import Derived.KernelRfl
namespace Go.Proofs.YtilnamobmjngbaaDoor
/- THE CELL 'sum', in the pinned program and in every row, IS THE sha256 OF THE DUMP (.gsa) THAT YtilnamobmjngbaaDoorProg.lean LOADS. Nothing in Lean hashes anything: it is a label: what it is worth is what the hold of that sum in a sandbox is worth. -/
noncomputable def Tryd.pinned : Pinned := { name := "ytilnamobmjngbaadoor", sum := "5735d0e763520f40c8d586f899b5c465feb02adf632b5ce7cd08cedd8715cfd3", checked := Tryd.checked }
namespace Rows
def none {H : Type} : Left H := { results := [], args := [] }

/- WHAT THE LISTED PACKAGE-LEVEL VARIABLES READ AS WHEN THE CALL BEGINS. Each datum BY PROGRAM (the guide's laid-datum.mjs) off the statement by which the dump's own 'gosem.cut.vars' lays the variable. In a bare row this is a premise. The card (YtilnamobmjngbaaDoorCards.lean) ties it to the program's text. -/
def laid_unicode_utf8_acceptRanges {H : Type} : DataW H := .agg [.agg [.lit (.int .u8 128), .lit (.int .u8 191)], .agg [.lit (.int .u8 160), .lit (.int .u8 191)], .agg [.lit (.int .u8 128), .lit (.int .u8 159)], .agg [.lit (.int .u8 144), .lit (.int .u8 191)], .agg [.lit (.int .u8 128), .lit (.int .u8 143)], .agg [.lit (.int .u8 0), .lit (.int .u8 0)], .agg [.lit (.int .u8 0), .lit (.int .u8 0)], .agg [.lit (.int .u8 0), .lit (.int .u8 0)], .agg [.lit (.int .u8 0), .lit (.int .u8 0)], .agg [.lit (.int .u8 0), .lit (.int .u8 0)], .agg [.lit (.int .u8 0), .lit (.int .u8 0)], .agg [.lit (.int .u8 0), .lit (.int .u8 0)], .agg [.lit (.int .u8 0), .lit (.int .u8 0)], .agg [.lit (.int .u8 0), .lit (.int .u8 0)], .agg [.lit (.int .u8 0), .lit (.int .u8 0)], .agg [.lit (.int .u8 0), .lit (.int .u8 0)]]
/-- One of Go's own tables, pinned by name: the form's constant. -/
def laid_unicode_utf8_first : DataW Unit := Go.Pinned.utf8First

/-- 'cruciblelaw18.Commands': WHATEVER THE INPUT: true; the input reads as it did. -/
def commandsSpec : ChangeSpec := { name := "commands", fn := fun _ => fun
  | [d1, d2, d3, d4] => { results := [.lit (.bool true)], args := [d1, d2, d3, d4] }
  | _ => none }
def commandsRow : OpenClaim := { program := "ytilnamobmjngbaadoor", sum := "5735d0e763520f40c8d586f899b5c465feb02adf632b5ce7cd08cedd8715cfd3", func := "crucible/cruciblelaw18.Commands", spec := "commands", inPlace := ["internal/bytealg.IndexByteString", "internal/bytealg.IndexString", "internal/bytealg.CountString", "internal/abi.NoEscape", "internal/bytealg.MakeNoZero"], unfollowed := true, recurses := true, named := ["unicode/utf8.first", "unicode/utf8.acceptRanges", "internal/bytealg.MaxLen"], apart := false, laid := [("unicode/utf8.acceptRanges", laid_unicode_utf8_acceptRanges), ("unicode/utf8.first", laid_unicode_utf8_first)] }
def CommandsSaid : Prop := commandsRow.holds Tryd.pinned (OpenSpec.ofChange commandsSpec)

/-- ITS FALSE NEIGHBOUR: 'it returns false'. Refute it at one input. -/
def commandsWrong : ChangeSpec := { name := "commands", fn := fun _ => fun
  | [d1, d2, d3, d4] => { results := [.lit (.bool false)], args := [d1, d2, d3, d4] }
  | _ => none }
def CommandsWrongFalsely : Prop := commandsRow.holds Tryd.pinned (OpenSpec.ofChange commandsWrong)

/-- 'cruciblelaw18.CommandForms': WHATEVER THE INPUT: true; the input reads as it did. -/
def commandFormsSpec : ChangeSpec := { name := "commandForms", fn := fun _ => fun
  | [d1, d2] => { results := [.lit (.bool true)], args := [d1, d2] }
  | _ => none }
def commandFormsRow : OpenClaim := { program := "ytilnamobmjngbaadoor", sum := "5735d0e763520f40c8d586f899b5c465feb02adf632b5ce7cd08cedd8715cfd3", func := "crucible/cruciblelaw18.CommandForms", spec := "commandForms", inPlace := ["internal/bytealg.IndexByteString", "internal/bytealg.IndexString", "internal/bytealg.CountString", "internal/abi.NoEscape", "internal/bytealg.MakeNoZero"], unfollowed := true, recurses := true, named := ["unicode/utf8.first", "unicode/utf8.acceptRanges", "internal/bytealg.MaxLen"], apart := false, laid := [("unicode/utf8.acceptRanges", laid_unicode_utf8_acceptRanges), ("unicode/utf8.first", laid_unicode_utf8_first)] }
def CommandFormsSaid : Prop := commandFormsRow.holds Tryd.pinned (OpenSpec.ofChange commandFormsSpec)

/-- ITS FALSE NEIGHBOUR: 'it returns false'. Refute it at one input. -/
def commandFormsWrong : ChangeSpec := { name := "commandForms", fn := fun _ => fun
  | [d1, d2] => { results := [.lit (.bool false)], args := [d1, d2] }
  | _ => none }
def CommandFormsWrongFalsely : Prop := commandFormsRow.holds Tryd.pinned (OpenSpec.ofChange commandFormsWrong)

/-- 'cruciblelaw18.CommandReads': WHATEVER THE INPUT: true; the input reads as it did. -/
def commandReadsSpec : ChangeSpec := { name := "commandReads", fn := fun _ => fun
  | [d1, d2, d3, d4, d5] => { results := [.lit (.bool true)], args := [d1, d2, d3, d4, d5] }
  | _ => none }
def commandReadsRow : OpenClaim := { program := "ytilnamobmjngbaadoor", sum := "5735d0e763520f40c8d586f899b5c465feb02adf632b5ce7cd08cedd8715cfd3", func := "crucible/cruciblelaw18.CommandReads", spec := "commandReads", inPlace := ["internal/bytealg.IndexByteString", "internal/bytealg.IndexString", "internal/bytealg.CountString", "internal/abi.NoEscape", "internal/bytealg.MakeNoZero"], unfollowed := true, recurses := true, named := ["unicode/utf8.first", "unicode/utf8.acceptRanges", "internal/bytealg.MaxLen"], apart := false, laid := [("unicode/utf8.acceptRanges", laid_unicode_utf8_acceptRanges), ("unicode/utf8.first", laid_unicode_utf8_first)] }
def CommandReadsSaid : Prop := commandReadsRow.holds Tryd.pinned (OpenSpec.ofChange commandReadsSpec)

/-- ITS FALSE NEIGHBOUR: 'it returns false'. Refute it at one input. -/
def commandReadsWrong : ChangeSpec := { name := "commandReads", fn := fun _ => fun
  | [d1, d2, d3, d4, d5] => { results := [.lit (.bool false)], args := [d1, d2, d3, d4, d5] }
  | _ => none }
def CommandReadsWrongFalsely : Prop := commandReadsRow.holds Tryd.pinned (OpenSpec.ofChange commandReadsWrong)

/-- 'cruciblelaw18.CommandSum': WHATEVER THE INPUT: true; the input reads as it did. -/
def commandSumSpec : ChangeSpec := { name := "commandSum", fn := fun _ => fun
  | [d1, d2, d3] => { results := [.lit (.bool true)], args := [d1, d2, d3] }
  | _ => none }
def commandSumRow : OpenClaim := { program := "ytilnamobmjngbaadoor", sum := "5735d0e763520f40c8d586f899b5c465feb02adf632b5ce7cd08cedd8715cfd3", func := "crucible/cruciblelaw18.CommandSum", spec := "commandSum", inPlace := ["internal/bytealg.IndexByteString", "internal/bytealg.IndexString", "internal/bytealg.CountString", "internal/abi.NoEscape", "internal/bytealg.MakeNoZero"], unfollowed := true, recurses := true, named := ["unicode/utf8.first", "unicode/utf8.acceptRanges", "internal/bytealg.MaxLen"], apart := false, laid := [("unicode/utf8.acceptRanges", laid_unicode_utf8_acceptRanges), ("unicode/utf8.first", laid_unicode_utf8_first)] }
def CommandSumSaid : Prop := commandSumRow.holds Tryd.pinned (OpenSpec.ofChange commandSumSpec)

/-- ITS FALSE NEIGHBOUR: 'it returns false'. Refute it at one input. -/
def commandSumWrong : ChangeSpec := { name := "commandSum", fn := fun _ => fun
  | [d1, d2, d3] => { results := [.lit (.bool false)], args := [d1, d2, d3] }
  | _ => none }
def CommandSumWrongFalsely : Prop := commandSumRow.holds Tryd.pinned (OpenSpec.ofChange commandSumWrong)

/-- 'cruciblelaw18.CommandOrder': WHATEVER THE INPUT: true; the input reads as it did. -/
def commandOrderSpec : ChangeSpec := { name := "commandOrder", fn := fun _ => fun
  | [d1, d2, d3] => { results := [.lit (.bool true)], args := [d1, d2, d3] }
  | _ => none }
def commandOrderRow : OpenClaim := { program := "ytilnamobmjngbaadoor", sum := "5735d0e763520f40c8d586f899b5c465feb02adf632b5ce7cd08cedd8715cfd3", func := "crucible/cruciblelaw18.CommandOrder", spec := "commandOrder", inPlace := ["internal/bytealg.IndexByteString", "internal/bytealg.IndexString", "internal/bytealg.CountString", "internal/abi.NoEscape", "internal/bytealg.MakeNoZero"], unfollowed := true, recurses := true, named := ["unicode/utf8.first", "unicode/utf8.acceptRanges", "internal/bytealg.MaxLen"], apart := false, laid := [("unicode/utf8.acceptRanges", laid_unicode_utf8_acceptRanges), ("unicode/utf8.first", laid_unicode_utf8_first)] }
def CommandOrderSaid : Prop := commandOrderRow.holds Tryd.pinned (OpenSpec.ofChange commandOrderSpec)

/-- ITS FALSE NEIGHBOUR: 'it returns false'. Refute it at one input. -/
def commandOrderWrong : ChangeSpec := { name := "commandOrder", fn := fun _ => fun
  | [d1, d2, d3] => { results := [.lit (.bool false)], args := [d1, d2, d3] }
  | _ => none }
def CommandOrderWrongFalsely : Prop := commandOrderRow.holds Tryd.pinned (OpenSpec.ofChange commandOrderWrong)

/-- 'cruciblelaw18.CommandFirst': WHATEVER THE INPUT: true; the input reads as it did. -/
def commandFirstSpec : ChangeSpec := { name := "commandFirst", fn := fun _ => fun
  | [d1, d2] => { results := [.lit (.bool true)], args := [d1, d2] }
  | _ => none }
def commandFirstRow : OpenClaim := { program := "ytilnamobmjngbaadoor", sum := "5735d0e763520f40c8d586f899b5c465feb02adf632b5ce7cd08cedd8715cfd3", func := "crucible/cruciblelaw18.CommandFirst", spec := "commandFirst", inPlace := ["internal/bytealg.IndexByteString", "internal/bytealg.IndexString", "internal/bytealg.CountString", "internal/abi.NoEscape", "internal/bytealg.MakeNoZero"], unfollowed := true, recurses := true, named := ["unicode/utf8.first", "unicode/utf8.acceptRanges", "internal/bytealg.MaxLen"], apart := false, laid := [("unicode/utf8.acceptRanges", laid_unicode_utf8_acceptRanges), ("unicode/utf8.first", laid_unicode_utf8_first)] }
def CommandFirstSaid : Prop := commandFirstRow.holds Tryd.pinned (OpenSpec.ofChange commandFirstSpec)

/-- ITS FALSE NEIGHBOUR: 'it returns false'. Refute it at one input. -/
def commandFirstWrong : ChangeSpec := { name := "commandFirst", fn := fun _ => fun
  | [d1, d2] => { results := [.lit (.bool false)], args := [d1, d2] }
  | _ => none }
def CommandFirstWrongFalsely : Prop := commandFirstRow.holds Tryd.pinned (OpenSpec.ofChange commandFirstWrong)

/-- 'cruciblelaw12.Disks': WHATEVER THE INPUT: true; the input reads as it did. -/
def disksSpec : ChangeSpec := { name := "disks", fn := fun _ => fun
  | [d1, d2, d3] => { results := [.lit (.bool true)], args := [d1, d2, d3] }
  | _ => none }
def disksRow : OpenClaim := { program := "ytilnamobmjngbaadoor", sum := "5735d0e763520f40c8d586f899b5c465feb02adf632b5ce7cd08cedd8715cfd3", func := "crucible/cruciblelaw12.Disks", spec := "disks", inPlace := ["internal/bytealg.IndexByteString", "internal/bytealg.IndexString", "internal/bytealg.CountString", "internal/abi.NoEscape", "internal/bytealg.MakeNoZero", "slices.overlaps[crucible/api.File]"], unfollowed := true, recurses := true, named := ["unicode/utf8.first", "unicode/utf8.acceptRanges", "internal/bytealg.MaxLen"], apart := false, laid := [("unicode/utf8.acceptRanges", laid_unicode_utf8_acceptRanges), ("unicode/utf8.first", laid_unicode_utf8_first)] }
def DisksSaid : Prop := disksRow.holds Tryd.pinned (OpenSpec.ofChange disksSpec)

/-- ITS FALSE NEIGHBOUR: 'it returns false'. Refute it at one input. -/
def disksWrong : ChangeSpec := { name := "disks", fn := fun _ => fun
  | [d1, d2, d3] => { results := [.lit (.bool false)], args := [d1, d2, d3] }
  | _ => none }
def DisksWrongFalsely : Prop := disksRow.holds Tryd.pinned (OpenSpec.ofChange disksWrong)

/-- 'cruciblelaw12.DiskForms': WHATEVER THE INPUT: true; the input reads as it did. -/
def diskFormsSpec : ChangeSpec := { name := "diskForms", fn := fun _ => fun
  | [d1, d2] => { results := [.lit (.bool true)], args := [d1, d2] }
  | _ => none }
def diskFormsRow : OpenClaim := { program := "ytilnamobmjngbaadoor", sum := "5735d0e763520f40c8d586f899b5c465feb02adf632b5ce7cd08cedd8715cfd3", func := "crucible/cruciblelaw12.DiskForms", spec := "diskForms", inPlace := ["internal/bytealg.IndexByteString", "internal/bytealg.IndexString", "internal/bytealg.CountString", "internal/abi.NoEscape", "internal/bytealg.MakeNoZero", "slices.overlaps[crucible/api.File]"], unfollowed := true, recurses := true, named := ["unicode/utf8.first", "unicode/utf8.acceptRanges", "internal/bytealg.MaxLen"], apart := false, laid := [("unicode/utf8.acceptRanges", laid_unicode_utf8_acceptRanges), ("unicode/utf8.first", laid_unicode_utf8_first)] }
def DiskFormsSaid : Prop := diskFormsRow.holds Tryd.pinned (OpenSpec.ofChange diskFormsSpec)

/-- ITS FALSE NEIGHBOUR: 'it returns false'. Refute it at one input. -/
def diskFormsWrong : ChangeSpec := { name := "diskForms", fn := fun _ => fun
  | [d1, d2] => { results := [.lit (.bool false)], args := [d1, d2] }
  | _ => none }
def DiskFormsWrongFalsely : Prop := diskFormsRow.holds Tryd.pinned (OpenSpec.ofChange diskFormsWrong)

/-- 'cruciblelaw12.DiskMany': WHATEVER THE INPUT: true; the input reads as it did. -/
def diskManySpec : ChangeSpec := { name := "diskMany", fn := fun _ => fun
  | [d1, d2] => { results := [.lit (.bool true)], args := [d1, d2] }
  | _ => none }
def diskManyRow : OpenClaim := { program := "ytilnamobmjngbaadoor", sum := "5735d0e763520f40c8d586f899b5c465feb02adf632b5ce7cd08cedd8715cfd3", func := "crucible/cruciblelaw12.DiskMany", spec := "diskMany", inPlace := ["internal/bytealg.IndexByteString", "internal/bytealg.IndexString", "internal/bytealg.CountString", "internal/abi.NoEscape", "internal/bytealg.MakeNoZero", "slices.overlaps[crucible/api.File]"], unfollowed := true, recurses := true, named := ["unicode/utf8.first", "unicode/utf8.acceptRanges", "internal/bytealg.MaxLen"], apart := false, laid := [("unicode/utf8.acceptRanges", laid_unicode_utf8_acceptRanges), ("unicode/utf8.first", laid_unicode_utf8_first)] }
def DiskManySaid : Prop := diskManyRow.holds Tryd.pinned (OpenSpec.ofChange diskManySpec)

/-- ITS FALSE NEIGHBOUR: 'it returns false'. Refute it at one input. -/
def diskManyWrong : ChangeSpec := { name := "diskMany", fn := fun _ => fun
  | [d1, d2] => { results := [.lit (.bool false)], args := [d1, d2] }
  | _ => none }
def DiskManyWrongFalsely : Prop := diskManyRow.holds Tryd.pinned (OpenSpec.ofChange diskManyWrong)

/-- 'cruciblelaw12.DiskOther': WHATEVER THE INPUT: true; the input reads as it did. -/
def diskOtherSpec : ChangeSpec := { name := "diskOther", fn := fun _ => fun
  | [d1, d2, d3, d4] => { results := [.lit (.bool true)], args := [d1, d2, d3, d4] }
  | _ => none }
def diskOtherRow : OpenClaim := { program := "ytilnamobmjngbaadoor", sum := "5735d0e763520f40c8d586f899b5c465feb02adf632b5ce7cd08cedd8715cfd3", func := "crucible/cruciblelaw12.DiskOther", spec := "diskOther", inPlace := ["internal/bytealg.IndexByteString", "internal/bytealg.IndexString", "internal/bytealg.CountString", "internal/abi.NoEscape", "internal/bytealg.MakeNoZero", "slices.overlaps[crucible/api.File]"], unfollowed := true, recurses := true, named := ["unicode/utf8.first", "unicode/utf8.acceptRanges", "internal/bytealg.MaxLen"], apart := false, laid := [("unicode/utf8.acceptRanges", laid_unicode_utf8_acceptRanges), ("unicode/utf8.first", laid_unicode_utf8_first)] }
def DiskOtherSaid : Prop := diskOtherRow.holds Tryd.pinned (OpenSpec.ofChange diskOtherSpec)

/-- ITS FALSE NEIGHBOUR: 'it returns false'. Refute it at one input. -/
def diskOtherWrong : ChangeSpec := { name := "diskOther", fn := fun _ => fun
  | [d1, d2, d3, d4] => { results := [.lit (.bool false)], args := [d1, d2, d3, d4] }
  | _ => none }
def DiskOtherWrongFalsely : Prop := diskOtherRow.holds Tryd.pinned (OpenSpec.ofChange diskOtherWrong)

/-- 'cruciblelaw12.DiskRow': WHATEVER THE INPUT: true; the input reads as it did. -/
def diskRowSpec : ChangeSpec := { name := "diskRow", fn := fun _ => fun
  | [d] => { results := [.lit (.bool true)], args := [d] }
  | _ => none }
def diskRowRow : OpenClaim := { program := "ytilnamobmjngbaadoor", sum := "5735d0e763520f40c8d586f899b5c465feb02adf632b5ce7cd08cedd8715cfd3", func := "crucible/cruciblelaw12.DiskRow", spec := "diskRow", inPlace := ["internal/bytealg.IndexByteString", "internal/bytealg.IndexString", "internal/bytealg.CountString", "internal/abi.NoEscape", "internal/bytealg.MakeNoZero", "slices.overlaps[crucible/api.File]"], unfollowed := true, recurses := true, named := ["unicode/utf8.first", "unicode/utf8.acceptRanges", "internal/bytealg.MaxLen"], apart := false, laid := [("unicode/utf8.acceptRanges", laid_unicode_utf8_acceptRanges), ("unicode/utf8.first", laid_unicode_utf8_first)] }
def DiskRowSaid : Prop := diskRowRow.holds Tryd.pinned (OpenSpec.ofChange diskRowSpec)

/-- ITS FALSE NEIGHBOUR: 'it returns false'. Refute it at one input. -/
def diskRowWrong : ChangeSpec := { name := "diskRow", fn := fun _ => fun
  | [d] => { results := [.lit (.bool false)], args := [d] }
  | _ => none }
def DiskRowWrongFalsely : Prop := diskRowRow.holds Tryd.pinned (OpenSpec.ofChange diskRowWrong)

/-- 'cruciblelaw12.DiskTimes': WHATEVER THE INPUT: true; the input reads as it did. -/
def diskTimesSpec : ChangeSpec := { name := "diskTimes", fn := fun _ => fun
  | [d1, d2] => { results := [.lit (.bool true)], args := [d1, d2] }
  | _ => none }
def diskTimesRow : OpenClaim := { program := "ytilnamobmjngbaadoor", sum := "5735d0e763520f40c8d586f899b5c465feb02adf632b5ce7cd08cedd8715cfd3", func := "crucible/cruciblelaw12.DiskTimes", spec := "diskTimes", inPlace := ["internal/bytealg.IndexByteString", "internal/bytealg.IndexString", "internal/bytealg.CountString", "internal/abi.NoEscape", "internal/bytealg.MakeNoZero", "slices.overlaps[crucible/api.File]"], unfollowed := true, recurses := true, named := ["unicode/utf8.first", "unicode/utf8.acceptRanges", "internal/bytealg.MaxLen"], apart := false, laid := [("unicode/utf8.acceptRanges", laid_unicode_utf8_acceptRanges), ("unicode/utf8.first", laid_unicode_utf8_first)] }
def DiskTimesSaid : Prop := diskTimesRow.holds Tryd.pinned (OpenSpec.ofChange diskTimesSpec)

/-- ITS FALSE NEIGHBOUR: 'it returns false'. Refute it at one input. -/
def diskTimesWrong : ChangeSpec := { name := "diskTimes", fn := fun _ => fun
  | [d1, d2] => { results := [.lit (.bool false)], args := [d1, d2] }
  | _ => none }
def DiskTimesWrongFalsely : Prop := diskTimesRow.holds Tryd.pinned (OpenSpec.ofChange diskTimesWrong)

/- THE SECOND FORM. 'bulk': how many values and letters a reading holds, each counted each time it is reached (what is shared counts as often as it is met; a slice's spare places count too). A statement '..UptoSaid' is the law's where the arguments, and the package variables that the reading takes, are together of bulk at most 1048576: NARROWER than '..Said'. Prove '..Said' where nothing that the law and all that it calls make is longer than what came in: it says more and counts as full. Else prove '..UptoSaid'. A law counts once. -/
mutual
def uptoBulk {H : Type} : DataW H → Nat
  | .lit (.string bytes) => bytes.length + 1
  | .lit _ => 1
  | .nil => 1
  | .ptr d => uptoBulk d + 1
  | .slice elems spare => uptoBulkAll elems + uptoBulkAll spare + 1
  | .agg parts => uptoBulkAll parts + 1
  | .iface _ d => uptoBulk d + 1
  | .map entries => uptoBulkEntries entries + 1
  | .held _ => 1
def uptoBulkAll {H : Type} : List (DataW H) → Nat
  | [] => 0
  | d :: r => uptoBulk d + uptoBulkAll r
def uptoBulkEntries {H : Type} : List (Lit × DataW H) → Nat
  | [] => 0
  | x :: r => uptoBulkEntry x + uptoBulkEntries r
def uptoBulkEntry {H : Type} : Lit × DataW H → Nat
  | (.string bytes, d) => bytes.length + uptoBulk d + 1
  | (_, d) => uptoBulk d + 1
 end
def uptoSmall : (H : Type) → List (DataW H) → Bool := fun _ ds => decide (uptoBulkAll ds ≤ 1048576)
def OpenSpec.upto (s : _root_.Go.ChangeSpec) : _root_.Go.OpenSpec := { _root_.Go.OpenSpec.ofChange s with cond := some uptoSmall }

/-- 'cruciblelaw18.Commands', WHERE WHAT IT READS IS OF BULK AT MOST 1048576: true; the input reads as it did. -/
def commandsUptoRow : OpenClaim := { program := "ytilnamobmjngbaadoor", sum := "5735d0e763520f40c8d586f899b5c465feb02adf632b5ce7cd08cedd8715cfd3", func := "crucible/cruciblelaw18.Commands", spec := "commands", inPlace := ["internal/bytealg.IndexByteString", "internal/bytealg.IndexString", "internal/bytealg.CountString", "internal/abi.NoEscape", "internal/bytealg.MakeNoZero"], unfollowed := true, recurses := true, named := ["unicode/utf8.first", "unicode/utf8.acceptRanges", "internal/bytealg.MaxLen"], apart := false, laid := [("unicode/utf8.acceptRanges", laid_unicode_utf8_acceptRanges), ("unicode/utf8.first", laid_unicode_utf8_first)], narrowed := true }
def CommandsUptoSaid : Prop := commandsUptoRow.holds Tryd.pinned (OpenSpec.upto commandsSpec)

/-- 'cruciblelaw18.CommandForms', WHERE WHAT IT READS IS OF BULK AT MOST 1048576: true; the input reads as it did. -/
def commandFormsUptoRow : OpenClaim := { program := "ytilnamobmjngbaadoor", sum := "5735d0e763520f40c8d586f899b5c465feb02adf632b5ce7cd08cedd8715cfd3", func := "crucible/cruciblelaw18.CommandForms", spec := "commandForms", inPlace := ["internal/bytealg.IndexByteString", "internal/bytealg.IndexString", "internal/bytealg.CountString", "internal/abi.NoEscape", "internal/bytealg.MakeNoZero"], unfollowed := true, recurses := true, named := ["unicode/utf8.first", "unicode/utf8.acceptRanges", "internal/bytealg.MaxLen"], apart := false, laid := [("unicode/utf8.acceptRanges", laid_unicode_utf8_acceptRanges), ("unicode/utf8.first", laid_unicode_utf8_first)], narrowed := true }
def CommandFormsUptoSaid : Prop := commandFormsUptoRow.holds Tryd.pinned (OpenSpec.upto commandFormsSpec)

/-- 'cruciblelaw18.CommandReads', WHERE WHAT IT READS IS OF BULK AT MOST 1048576: true; the input reads as it did. -/
def commandReadsUptoRow : OpenClaim := { program := "ytilnamobmjngbaadoor", sum := "5735d0e763520f40c8d586f899b5c465feb02adf632b5ce7cd08cedd8715cfd3", func := "crucible/cruciblelaw18.CommandReads", spec := "commandReads", inPlace := ["internal/bytealg.IndexByteString", "internal/bytealg.IndexString", "internal/bytealg.CountString", "internal/abi.NoEscape", "internal/bytealg.MakeNoZero"], unfollowed := true, recurses := true, named := ["unicode/utf8.first", "unicode/utf8.acceptRanges", "internal/bytealg.MaxLen"], apart := false, laid := [("unicode/utf8.acceptRanges", laid_unicode_utf8_acceptRanges), ("unicode/utf8.first", laid_unicode_utf8_first)], narrowed := true }
def CommandReadsUptoSaid : Prop := commandReadsUptoRow.holds Tryd.pinned (OpenSpec.upto commandReadsSpec)

/-- 'cruciblelaw18.CommandSum', WHERE WHAT IT READS IS OF BULK AT MOST 1048576: true; the input reads as it did. -/
def commandSumUptoRow : OpenClaim := { program := "ytilnamobmjngbaadoor", sum := "5735d0e763520f40c8d586f899b5c465feb02adf632b5ce7cd08cedd8715cfd3", func := "crucible/cruciblelaw18.CommandSum", spec := "commandSum", inPlace := ["internal/bytealg.IndexByteString", "internal/bytealg.IndexString", "internal/bytealg.CountString", "internal/abi.NoEscape", "internal/bytealg.MakeNoZero"], unfollowed := true, recurses := true, named := ["unicode/utf8.first", "unicode/utf8.acceptRanges", "internal/bytealg.MaxLen"], apart := false, laid := [("unicode/utf8.acceptRanges", laid_unicode_utf8_acceptRanges), ("unicode/utf8.first", laid_unicode_utf8_first)], narrowed := true }
def CommandSumUptoSaid : Prop := commandSumUptoRow.holds Tryd.pinned (OpenSpec.upto commandSumSpec)

/-- 'cruciblelaw18.CommandOrder', WHERE WHAT IT READS IS OF BULK AT MOST 1048576: true; the input reads as it did. -/
def commandOrderUptoRow : OpenClaim := { program := "ytilnamobmjngbaadoor", sum := "5735d0e763520f40c8d586f899b5c465feb02adf632b5ce7cd08cedd8715cfd3", func := "crucible/cruciblelaw18.CommandOrder", spec := "commandOrder", inPlace := ["internal/bytealg.IndexByteString", "internal/bytealg.IndexString", "internal/bytealg.CountString", "internal/abi.NoEscape", "internal/bytealg.MakeNoZero"], unfollowed := true, recurses := true, named := ["unicode/utf8.first", "unicode/utf8.acceptRanges", "internal/bytealg.MaxLen"], apart := false, laid := [("unicode/utf8.acceptRanges", laid_unicode_utf8_acceptRanges), ("unicode/utf8.first", laid_unicode_utf8_first)], narrowed := true }
def CommandOrderUptoSaid : Prop := commandOrderUptoRow.holds Tryd.pinned (OpenSpec.upto commandOrderSpec)

/-- 'cruciblelaw18.CommandFirst', WHERE WHAT IT READS IS OF BULK AT MOST 1048576: true; the input reads as it did. -/
def commandFirstUptoRow : OpenClaim := { program := "ytilnamobmjngbaadoor", sum := "5735d0e763520f40c8d586f899b5c465feb02adf632b5ce7cd08cedd8715cfd3", func := "crucible/cruciblelaw18.CommandFirst", spec := "commandFirst", inPlace := ["internal/bytealg.IndexByteString", "internal/bytealg.IndexString", "internal/bytealg.CountString", "internal/abi.NoEscape", "internal/bytealg.MakeNoZero"], unfollowed := true, recurses := true, named := ["unicode/utf8.first", "unicode/utf8.acceptRanges", "internal/bytealg.MaxLen"], apart := false, laid := [("unicode/utf8.acceptRanges", laid_unicode_utf8_acceptRanges), ("unicode/utf8.first", laid_unicode_utf8_first)], narrowed := true }
def CommandFirstUptoSaid : Prop := commandFirstUptoRow.holds Tryd.pinned (OpenSpec.upto commandFirstSpec)

/-- 'cruciblelaw12.Disks', WHERE WHAT IT READS IS OF BULK AT MOST 1048576: true; the input reads as it did. -/
def disksUptoRow : OpenClaim := { program := "ytilnamobmjngbaadoor", sum := "5735d0e763520f40c8d586f899b5c465feb02adf632b5ce7cd08cedd8715cfd3", func := "crucible/cruciblelaw12.Disks", spec := "disks", inPlace := ["internal/bytealg.IndexByteString", "internal/bytealg.IndexString", "internal/bytealg.CountString", "internal/abi.NoEscape", "internal/bytealg.MakeNoZero", "slices.overlaps[crucible/api.File]"], unfollowed := true, recurses := true, named := ["unicode/utf8.first", "unicode/utf8.acceptRanges", "internal/bytealg.MaxLen"], apart := false, laid := [("unicode/utf8.acceptRanges", laid_unicode_utf8_acceptRanges), ("unicode/utf8.first", laid_unicode_utf8_first)], narrowed := true }
def DisksUptoSaid : Prop := disksUptoRow.holds Tryd.pinned (OpenSpec.upto disksSpec)

/-- 'cruciblelaw12.DiskForms', WHERE WHAT IT READS IS OF BULK AT MOST 1048576: true; the input reads as it did. -/
def diskFormsUptoRow : OpenClaim := { program := "ytilnamobmjngbaadoor", sum := "5735d0e763520f40c8d586f899b5c465feb02adf632b5ce7cd08cedd8715cfd3", func := "crucible/cruciblelaw12.DiskForms", spec := "diskForms", inPlace := ["internal/bytealg.IndexByteString", "internal/bytealg.IndexString", "internal/bytealg.CountString", "internal/abi.NoEscape", "internal/bytealg.MakeNoZero", "slices.overlaps[crucible/api.File]"], unfollowed := true, recurses := true, named := ["unicode/utf8.first", "unicode/utf8.acceptRanges", "internal/bytealg.MaxLen"], apart := false, laid := [("unicode/utf8.acceptRanges", laid_unicode_utf8_acceptRanges), ("unicode/utf8.first", laid_unicode_utf8_first)], narrowed := true }
def DiskFormsUptoSaid : Prop := diskFormsUptoRow.holds Tryd.pinned (OpenSpec.upto diskFormsSpec)

/-- 'cruciblelaw12.DiskMany', WHERE WHAT IT READS IS OF BULK AT MOST 1048576: true; the input reads as it did. -/
def diskManyUptoRow : OpenClaim := { program := "ytilnamobmjngbaadoor", sum := "5735d0e763520f40c8d586f899b5c465feb02adf632b5ce7cd08cedd8715cfd3", func := "crucible/cruciblelaw12.DiskMany", spec := "diskMany", inPlace := ["internal/bytealg.IndexByteString", "internal/bytealg.IndexString", "internal/bytealg.CountString", "internal/abi.NoEscape", "internal/bytealg.MakeNoZero", "slices.overlaps[crucible/api.File]"], unfollowed := true, recurses := true, named := ["unicode/utf8.first", "unicode/utf8.acceptRanges", "internal/bytealg.MaxLen"], apart := false, laid := [("unicode/utf8.acceptRanges", laid_unicode_utf8_acceptRanges), ("unicode/utf8.first", laid_unicode_utf8_first)], narrowed := true }
def DiskManyUptoSaid : Prop := diskManyUptoRow.holds Tryd.pinned (OpenSpec.upto diskManySpec)

/-- 'cruciblelaw12.DiskOther', WHERE WHAT IT READS IS OF BULK AT MOST 1048576: true; the input reads as it did. -/
def diskOtherUptoRow : OpenClaim := { program := "ytilnamobmjngbaadoor", sum := "5735d0e763520f40c8d586f899b5c465feb02adf632b5ce7cd08cedd8715cfd3", func := "crucible/cruciblelaw12.DiskOther", spec := "diskOther", inPlace := ["internal/bytealg.IndexByteString", "internal/bytealg.IndexString", "internal/bytealg.CountString", "internal/abi.NoEscape", "internal/bytealg.MakeNoZero", "slices.overlaps[crucible/api.File]"], unfollowed := true, recurses := true, named := ["unicode/utf8.first", "unicode/utf8.acceptRanges", "internal/bytealg.MaxLen"], apart := false, laid := [("unicode/utf8.acceptRanges", laid_unicode_utf8_acceptRanges), ("unicode/utf8.first", laid_unicode_utf8_first)], narrowed := true }
def DiskOtherUptoSaid : Prop := diskOtherUptoRow.holds Tryd.pinned (OpenSpec.upto diskOtherSpec)

/-- 'cruciblelaw12.DiskRow', WHERE WHAT IT READS IS OF BULK AT MOST 1048576: true; the input reads as it did. -/
def diskRowUptoRow : OpenClaim := { program := "ytilnamobmjngbaadoor", sum := "5735d0e763520f40c8d586f899b5c465feb02adf632b5ce7cd08cedd8715cfd3", func := "crucible/cruciblelaw12.DiskRow", spec := "diskRow", inPlace := ["internal/bytealg.IndexByteString", "internal/bytealg.IndexString", "internal/bytealg.CountString", "internal/abi.NoEscape", "internal/bytealg.MakeNoZero", "slices.overlaps[crucible/api.File]"], unfollowed := true, recurses := true, named := ["unicode/utf8.first", "unicode/utf8.acceptRanges", "internal/bytealg.MaxLen"], apart := false, laid := [("unicode/utf8.acceptRanges", laid_unicode_utf8_acceptRanges), ("unicode/utf8.first", laid_unicode_utf8_first)], narrowed := true }
def DiskRowUptoSaid : Prop := diskRowUptoRow.holds Tryd.pinned (OpenSpec.upto diskRowSpec)

/-- 'cruciblelaw12.DiskTimes', WHERE WHAT IT READS IS OF BULK AT MOST 1048576: true; the input reads as it did. -/
def diskTimesUptoRow : OpenClaim := { program := "ytilnamobmjngbaadoor", sum := "5735d0e763520f40c8d586f899b5c465feb02adf632b5ce7cd08cedd8715cfd3", func := "crucible/cruciblelaw12.DiskTimes", spec := "diskTimes", inPlace := ["internal/bytealg.IndexByteString", "internal/bytealg.IndexString", "internal/bytealg.CountString", "internal/abi.NoEscape", "internal/bytealg.MakeNoZero", "slices.overlaps[crucible/api.File]"], unfollowed := true, recurses := true, named := ["unicode/utf8.first", "unicode/utf8.acceptRanges", "internal/bytealg.MaxLen"], apart := false, laid := [("unicode/utf8.acceptRanges", laid_unicode_utf8_acceptRanges), ("unicode/utf8.first", laid_unicode_utf8_first)], narrowed := true }
def DiskTimesUptoSaid : Prop := diskTimesUptoRow.holds Tryd.pinned (OpenSpec.upto diskTimesSpec)

end Rows
end Go.Proofs.YtilnamobmjngbaaDoor
