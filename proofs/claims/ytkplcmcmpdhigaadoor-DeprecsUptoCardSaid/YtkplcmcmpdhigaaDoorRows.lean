/-
  NARROWER THAN 'FOR EVERY INPUT', by the rows' own cells (each row's printed sentence says how): Signs: laid · SignForms: laid · SignOther: laid · SignParts: laid · Deprecs: laid · DeprecForms: laid · DeprecUnlike: laid · DeprecSizes: laid · Deplogs: laid · DeplogCut: laid · DeplogForms: laid · DeplogCompacts: laid · DeplogBad: laid · DeplogTwo: laid · DeplogLast: laid · DeplogLoad: laid.
  DERIVED. THE GIVEN ROWS OF THIS SEAT. 16 by the template 'for every input the law returns true; each argument reads behind the call as it read before'; 0 by the template 'total and deterministic' (their statements: YtkplcmcmpdhigaaDoorTotals.lean).
  GIVEN WITH THE SEED: the statements are not yours to turn. If you find one false, say at which input.
  Laid BY PROGRAM, IN A SANDBOX (cutbox-rows.mjs): the forced cells as the released guide's own fill.sh prints them over the translation dec200b0513f2eba… (all of the seat's roots in one cut). By AI agents, Wed Nov 11 2026. No macro, syntax, notation, axiom, sorry.
-/
import Derived.Test.YtkplcmcmpdhigaaDoorChecked
import GoSem.PinnedTables
import GoSem.Claim
import GoSem.ClaimJoined
import GoSem.ClaimMapViews
import Derived.JoinedTies
import Derived.KernelRfl
namespace Go.Proofs.YtkplcmcmpdhigaaDoor
/- THE CELL 'sum', in the pinned program and in every row, IS THE sha256 OF THE DUMP (.gsa) THAT YtkplcmcmpdhigaaDoorProg.lean LOADS. Nothing in Lean hashes anything: it is a label: what it is worth is what the hold of that sum in a sandbox is worth. -/
noncomputable def Tryd.pinned : Pinned := { name := "ytkplcmcmpdhigaadoor", sum := "dec200b0513f2eba1a9a887e702f1114140e07d885bcef33dc53f8262e326361", checked := Tryd.checked }
namespace Rows
def none {H : Type} : Left H := { results := [], args := [] }

/- WHAT THE LISTED PACKAGE-LEVEL VARIABLES READ AS WHEN THE CALL BEGINS. Each datum BY PROGRAM (the guide's laid-datum.mjs) off the statement by which the dump's own 'gosem.cut.vars' lays the variable. In a bare row this is a premise. The card (YtkplcmcmpdhigaaDoorCards.lean) ties it to the program's text. -/
def laid_unicode_utf8_acceptRanges {H : Type} : DataW H := .agg [.agg [.lit (.int .u8 128), .lit (.int .u8 191)], .agg [.lit (.int .u8 160), .lit (.int .u8 191)], .agg [.lit (.int .u8 128), .lit (.int .u8 159)], .agg [.lit (.int .u8 144), .lit (.int .u8 191)], .agg [.lit (.int .u8 128), .lit (.int .u8 143)], .agg [.lit (.int .u8 0), .lit (.int .u8 0)], .agg [.lit (.int .u8 0), .lit (.int .u8 0)], .agg [.lit (.int .u8 0), .lit (.int .u8 0)], .agg [.lit (.int .u8 0), .lit (.int .u8 0)], .agg [.lit (.int .u8 0), .lit (.int .u8 0)], .agg [.lit (.int .u8 0), .lit (.int .u8 0)], .agg [.lit (.int .u8 0), .lit (.int .u8 0)], .agg [.lit (.int .u8 0), .lit (.int .u8 0)], .agg [.lit (.int .u8 0), .lit (.int .u8 0)], .agg [.lit (.int .u8 0), .lit (.int .u8 0)], .agg [.lit (.int .u8 0), .lit (.int .u8 0)]]
/-- One of Go's own tables, pinned by name: the form's constant. -/
def laid_unicode_utf8_first : DataW Unit := Go.Pinned.utf8First

/-- 'cruciblelaw11.Signs': WHATEVER THE INPUT: true; the input reads as it did. -/
def signsSpec : ChangeSpec := { name := "signs", fn := fun _ => fun
  | [d1, d2] => { results := [.lit (.bool true)], args := [d1, d2] }
  | _ => none }
def signsRow : OpenClaim := { program := "ytkplcmcmpdhigaadoor", sum := "dec200b0513f2eba1a9a887e702f1114140e07d885bcef33dc53f8262e326361", func := "crucible/cruciblelaw11.Signs", spec := "signs", inPlace := ["internal/bytealg.IndexByteString", "internal/bytealg.IndexString", "internal/bytealg.CountString", "internal/abi.NoEscape", "internal/bytealg.MakeNoZero"], unfollowed := true, recurses := true, named := ["unicode/utf8.first", "unicode/utf8.acceptRanges", "internal/bytealg.MaxLen"], apart := false, laid := [("unicode/utf8.acceptRanges", laid_unicode_utf8_acceptRanges), ("unicode/utf8.first", laid_unicode_utf8_first)] }
def SignsSaid : Prop := signsRow.holds Tryd.pinned (OpenSpec.ofChange signsSpec)

/-- ITS FALSE NEIGHBOUR: 'it returns false'. Refute it at one input. -/
def signsWrong : ChangeSpec := { name := "signs", fn := fun _ => fun
  | [d1, d2] => { results := [.lit (.bool false)], args := [d1, d2] }
  | _ => none }
def SignsWrongFalsely : Prop := signsRow.holds Tryd.pinned (OpenSpec.ofChange signsWrong)

/-- 'cruciblelaw11.SignForms': WHATEVER THE INPUT: true; the input reads as it did. -/
def signFormsSpec : ChangeSpec := { name := "signForms", fn := fun _ => fun
  | [d1, d2] => { results := [.lit (.bool true)], args := [d1, d2] }
  | _ => none }
def signFormsRow : OpenClaim := { program := "ytkplcmcmpdhigaadoor", sum := "dec200b0513f2eba1a9a887e702f1114140e07d885bcef33dc53f8262e326361", func := "crucible/cruciblelaw11.SignForms", spec := "signForms", inPlace := ["internal/bytealg.IndexByteString", "internal/bytealg.IndexString", "internal/bytealg.CountString", "internal/abi.NoEscape", "internal/bytealg.MakeNoZero"], unfollowed := true, recurses := true, named := ["unicode/utf8.first", "unicode/utf8.acceptRanges", "internal/bytealg.MaxLen"], apart := false, laid := [("unicode/utf8.acceptRanges", laid_unicode_utf8_acceptRanges), ("unicode/utf8.first", laid_unicode_utf8_first)] }
def SignFormsSaid : Prop := signFormsRow.holds Tryd.pinned (OpenSpec.ofChange signFormsSpec)

/-- ITS FALSE NEIGHBOUR: 'it returns false'. Refute it at one input. -/
def signFormsWrong : ChangeSpec := { name := "signForms", fn := fun _ => fun
  | [d1, d2] => { results := [.lit (.bool false)], args := [d1, d2] }
  | _ => none }
def SignFormsWrongFalsely : Prop := signFormsRow.holds Tryd.pinned (OpenSpec.ofChange signFormsWrong)

/-- 'cruciblelaw11.SignOther': WHATEVER THE INPUT: true; the input reads as it did. -/
def signOtherSpec : ChangeSpec := { name := "signOther", fn := fun _ => fun
  | [d1, d2, d3] => { results := [.lit (.bool true)], args := [d1, d2, d3] }
  | _ => none }
def signOtherRow : OpenClaim := { program := "ytkplcmcmpdhigaadoor", sum := "dec200b0513f2eba1a9a887e702f1114140e07d885bcef33dc53f8262e326361", func := "crucible/cruciblelaw11.SignOther", spec := "signOther", inPlace := ["internal/bytealg.IndexByteString", "internal/bytealg.IndexString", "internal/bytealg.CountString", "internal/abi.NoEscape", "internal/bytealg.MakeNoZero"], unfollowed := true, recurses := true, named := ["unicode/utf8.first", "unicode/utf8.acceptRanges", "internal/bytealg.MaxLen"], apart := false, laid := [("unicode/utf8.acceptRanges", laid_unicode_utf8_acceptRanges), ("unicode/utf8.first", laid_unicode_utf8_first)] }
def SignOtherSaid : Prop := signOtherRow.holds Tryd.pinned (OpenSpec.ofChange signOtherSpec)

/-- ITS FALSE NEIGHBOUR: 'it returns false'. Refute it at one input. -/
def signOtherWrong : ChangeSpec := { name := "signOther", fn := fun _ => fun
  | [d1, d2, d3] => { results := [.lit (.bool false)], args := [d1, d2, d3] }
  | _ => none }
def SignOtherWrongFalsely : Prop := signOtherRow.holds Tryd.pinned (OpenSpec.ofChange signOtherWrong)

/-- 'cruciblelaw11.SignParts': WHATEVER THE INPUT: true; the input reads as it did. -/
def signPartsSpec : ChangeSpec := { name := "signParts", fn := fun _ => fun
  | [d1, d2, d3, d4] => { results := [.lit (.bool true)], args := [d1, d2, d3, d4] }
  | _ => none }
def signPartsRow : OpenClaim := { program := "ytkplcmcmpdhigaadoor", sum := "dec200b0513f2eba1a9a887e702f1114140e07d885bcef33dc53f8262e326361", func := "crucible/cruciblelaw11.SignParts", spec := "signParts", inPlace := ["internal/bytealg.IndexByteString", "internal/bytealg.IndexString", "internal/bytealg.CountString", "internal/abi.NoEscape", "internal/bytealg.MakeNoZero"], unfollowed := true, recurses := true, named := ["unicode/utf8.first", "unicode/utf8.acceptRanges", "internal/bytealg.MaxLen"], apart := false, laid := [("unicode/utf8.acceptRanges", laid_unicode_utf8_acceptRanges), ("unicode/utf8.first", laid_unicode_utf8_first)] }
def SignPartsSaid : Prop := signPartsRow.holds Tryd.pinned (OpenSpec.ofChange signPartsSpec)

/-- ITS FALSE NEIGHBOUR: 'it returns false'. Refute it at one input. -/
def signPartsWrong : ChangeSpec := { name := "signParts", fn := fun _ => fun
  | [d1, d2, d3, d4] => { results := [.lit (.bool false)], args := [d1, d2, d3, d4] }
  | _ => none }
def SignPartsWrongFalsely : Prop := signPartsRow.holds Tryd.pinned (OpenSpec.ofChange signPartsWrong)

/-- 'cruciblelaw15.Deprecs': WHATEVER THE INPUT: true; the input reads as it did. -/
def deprecsSpec : ChangeSpec := { name := "deprecs", fn := fun _ => fun
  | [d1, d2] => { results := [.lit (.bool true)], args := [d1, d2] }
  | _ => none }
def deprecsRow : OpenClaim := { program := "ytkplcmcmpdhigaadoor", sum := "dec200b0513f2eba1a9a887e702f1114140e07d885bcef33dc53f8262e326361", func := "crucible/cruciblelaw15.Deprecs", spec := "deprecs", inPlace := ["internal/bytealg.IndexByteString", "internal/bytealg.IndexString", "internal/bytealg.CountString", "internal/abi.NoEscape", "internal/bytealg.MakeNoZero"], unfollowed := true, recurses := true, named := ["unicode/utf8.first", "unicode/utf8.acceptRanges", "internal/bytealg.MaxLen"], apart := false, laid := [("unicode/utf8.acceptRanges", laid_unicode_utf8_acceptRanges), ("unicode/utf8.first", laid_unicode_utf8_first)] }
def DeprecsSaid : Prop := deprecsRow.holds Tryd.pinned (OpenSpec.ofChange deprecsSpec)

/-- ITS FALSE NEIGHBOUR: 'it returns false'. Refute it at one input. -/
def deprecsWrong : ChangeSpec := { name := "deprecs", fn := fun _ => fun
  | [d1, d2] => { results := [.lit (.bool false)], args := [d1, d2] }
  | _ => none }
def DeprecsWrongFalsely : Prop := deprecsRow.holds Tryd.pinned (OpenSpec.ofChange deprecsWrong)

/-- 'cruciblelaw15.DeprecForms': WHATEVER THE INPUT: true; the input reads as it did. -/
def deprecFormsSpec : ChangeSpec := { name := "deprecForms", fn := fun _ => fun
  | [d1, d2] => { results := [.lit (.bool true)], args := [d1, d2] }
  | _ => none }
def deprecFormsRow : OpenClaim := { program := "ytkplcmcmpdhigaadoor", sum := "dec200b0513f2eba1a9a887e702f1114140e07d885bcef33dc53f8262e326361", func := "crucible/cruciblelaw15.DeprecForms", spec := "deprecForms", inPlace := ["internal/bytealg.IndexByteString", "internal/bytealg.IndexString", "internal/bytealg.CountString", "internal/abi.NoEscape", "internal/bytealg.MakeNoZero"], unfollowed := true, recurses := true, named := ["unicode/utf8.first", "unicode/utf8.acceptRanges", "internal/bytealg.MaxLen"], apart := false, laid := [("unicode/utf8.acceptRanges", laid_unicode_utf8_acceptRanges), ("unicode/utf8.first", laid_unicode_utf8_first)] }
def DeprecFormsSaid : Prop := deprecFormsRow.holds Tryd.pinned (OpenSpec.ofChange deprecFormsSpec)

/-- ITS FALSE NEIGHBOUR: 'it returns false'. Refute it at one input. -/
def deprecFormsWrong : ChangeSpec := { name := "deprecForms", fn := fun _ => fun
  | [d1, d2] => { results := [.lit (.bool false)], args := [d1, d2] }
  | _ => none }
def DeprecFormsWrongFalsely : Prop := deprecFormsRow.holds Tryd.pinned (OpenSpec.ofChange deprecFormsWrong)

/-- 'cruciblelaw15.DeprecUnlike': WHATEVER THE INPUT: true; the input reads as it did. -/
def deprecUnlikeSpec : ChangeSpec := { name := "deprecUnlike", fn := fun _ => fun
  | [d1, d2] => { results := [.lit (.bool true)], args := [d1, d2] }
  | _ => none }
def deprecUnlikeRow : OpenClaim := { program := "ytkplcmcmpdhigaadoor", sum := "dec200b0513f2eba1a9a887e702f1114140e07d885bcef33dc53f8262e326361", func := "crucible/cruciblelaw15.DeprecUnlike", spec := "deprecUnlike", inPlace := ["internal/bytealg.IndexByteString", "internal/bytealg.IndexString", "internal/bytealg.CountString", "internal/abi.NoEscape", "internal/bytealg.MakeNoZero"], unfollowed := true, recurses := true, named := ["unicode/utf8.first", "unicode/utf8.acceptRanges", "internal/bytealg.MaxLen"], apart := false, laid := [("unicode/utf8.acceptRanges", laid_unicode_utf8_acceptRanges), ("unicode/utf8.first", laid_unicode_utf8_first)] }
def DeprecUnlikeSaid : Prop := deprecUnlikeRow.holds Tryd.pinned (OpenSpec.ofChange deprecUnlikeSpec)

/-- ITS FALSE NEIGHBOUR: 'it returns false'. Refute it at one input. -/
def deprecUnlikeWrong : ChangeSpec := { name := "deprecUnlike", fn := fun _ => fun
  | [d1, d2] => { results := [.lit (.bool false)], args := [d1, d2] }
  | _ => none }
def DeprecUnlikeWrongFalsely : Prop := deprecUnlikeRow.holds Tryd.pinned (OpenSpec.ofChange deprecUnlikeWrong)

/-- 'cruciblelaw15.DeprecSizes': WHATEVER THE INPUT: true; the input reads as it did. -/
def deprecSizesSpec : ChangeSpec := { name := "deprecSizes", fn := fun _ => fun
  | [d1, d2, d3] => { results := [.lit (.bool true)], args := [d1, d2, d3] }
  | _ => none }
def deprecSizesRow : OpenClaim := { program := "ytkplcmcmpdhigaadoor", sum := "dec200b0513f2eba1a9a887e702f1114140e07d885bcef33dc53f8262e326361", func := "crucible/cruciblelaw15.DeprecSizes", spec := "deprecSizes", inPlace := ["internal/bytealg.IndexByteString", "internal/bytealg.IndexString", "internal/bytealg.CountString", "internal/abi.NoEscape", "internal/bytealg.MakeNoZero"], unfollowed := true, recurses := true, named := ["unicode/utf8.first", "unicode/utf8.acceptRanges", "internal/bytealg.MaxLen"], apart := false, laid := [("unicode/utf8.acceptRanges", laid_unicode_utf8_acceptRanges), ("unicode/utf8.first", laid_unicode_utf8_first)] }
def DeprecSizesSaid : Prop := deprecSizesRow.holds Tryd.pinned (OpenSpec.ofChange deprecSizesSpec)

/-- ITS FALSE NEIGHBOUR: 'it returns false'. Refute it at one input. -/
def deprecSizesWrong : ChangeSpec := { name := "deprecSizes", fn := fun _ => fun
  | [d1, d2, d3] => { results := [.lit (.bool false)], args := [d1, d2, d3] }
  | _ => none }
def DeprecSizesWrongFalsely : Prop := deprecSizesRow.holds Tryd.pinned (OpenSpec.ofChange deprecSizesWrong)

/-- 'cruciblelaw16.Deplogs': WHATEVER THE INPUT: true; the input reads as it did. -/
def deplogsSpec : ChangeSpec := { name := "deplogs", fn := fun _ => fun
  | [d1, d2, d3] => { results := [.lit (.bool true)], args := [d1, d2, d3] }
  | _ => none }
def deplogsRow : OpenClaim := { program := "ytkplcmcmpdhigaadoor", sum := "dec200b0513f2eba1a9a887e702f1114140e07d885bcef33dc53f8262e326361", func := "crucible/cruciblelaw16.Deplogs", spec := "deplogs", inPlace := ["internal/bytealg.IndexByteString", "internal/bytealg.IndexString", "internal/bytealg.CountString", "internal/abi.NoEscape", "internal/bytealg.MakeNoZero"], unfollowed := true, recurses := true, named := ["unicode/utf8.first", "unicode/utf8.acceptRanges", "internal/bytealg.MaxLen"], apart := false, laid := [("unicode/utf8.acceptRanges", laid_unicode_utf8_acceptRanges), ("unicode/utf8.first", laid_unicode_utf8_first)] }
def DeplogsSaid : Prop := deplogsRow.holds Tryd.pinned (OpenSpec.ofChange deplogsSpec)

/-- ITS FALSE NEIGHBOUR: 'it returns false'. Refute it at one input. -/
def deplogsWrong : ChangeSpec := { name := "deplogs", fn := fun _ => fun
  | [d1, d2, d3] => { results := [.lit (.bool false)], args := [d1, d2, d3] }
  | _ => none }
def DeplogsWrongFalsely : Prop := deplogsRow.holds Tryd.pinned (OpenSpec.ofChange deplogsWrong)

/-- 'cruciblelaw16.DeplogCut': WHATEVER THE INPUT: true; the input reads as it did. -/
def deplogCutSpec : ChangeSpec := { name := "deplogCut", fn := fun _ => fun
  | [d1, d2] => { results := [.lit (.bool true)], args := [d1, d2] }
  | _ => none }
def deplogCutRow : OpenClaim := { program := "ytkplcmcmpdhigaadoor", sum := "dec200b0513f2eba1a9a887e702f1114140e07d885bcef33dc53f8262e326361", func := "crucible/cruciblelaw16.DeplogCut", spec := "deplogCut", inPlace := ["internal/bytealg.IndexByteString", "internal/bytealg.IndexString", "internal/bytealg.CountString", "internal/abi.NoEscape", "internal/bytealg.MakeNoZero"], unfollowed := true, recurses := true, named := ["unicode/utf8.first", "unicode/utf8.acceptRanges", "internal/bytealg.MaxLen"], apart := false, laid := [("unicode/utf8.acceptRanges", laid_unicode_utf8_acceptRanges), ("unicode/utf8.first", laid_unicode_utf8_first)] }
def DeplogCutSaid : Prop := deplogCutRow.holds Tryd.pinned (OpenSpec.ofChange deplogCutSpec)

/-- ITS FALSE NEIGHBOUR: 'it returns false'. Refute it at one input. -/
def deplogCutWrong : ChangeSpec := { name := "deplogCut", fn := fun _ => fun
  | [d1, d2] => { results := [.lit (.bool false)], args := [d1, d2] }
  | _ => none }
def DeplogCutWrongFalsely : Prop := deplogCutRow.holds Tryd.pinned (OpenSpec.ofChange deplogCutWrong)

/-- 'cruciblelaw16.DeplogForms': WHATEVER THE INPUT: true; the input reads as it did. -/
def deplogFormsSpec : ChangeSpec := { name := "deplogForms", fn := fun _ => fun
  | [d1, d2] => { results := [.lit (.bool true)], args := [d1, d2] }
  | _ => none }
def deplogFormsRow : OpenClaim := { program := "ytkplcmcmpdhigaadoor", sum := "dec200b0513f2eba1a9a887e702f1114140e07d885bcef33dc53f8262e326361", func := "crucible/cruciblelaw16.DeplogForms", spec := "deplogForms", inPlace := ["internal/bytealg.IndexByteString", "internal/bytealg.IndexString", "internal/bytealg.CountString", "internal/abi.NoEscape", "internal/bytealg.MakeNoZero"], unfollowed := true, recurses := true, named := ["unicode/utf8.first", "unicode/utf8.acceptRanges", "internal/bytealg.MaxLen"], apart := false, laid := [("unicode/utf8.acceptRanges", laid_unicode_utf8_acceptRanges), ("unicode/utf8.first", laid_unicode_utf8_first)] }
def DeplogFormsSaid : Prop := deplogFormsRow.holds Tryd.pinned (OpenSpec.ofChange deplogFormsSpec)

/-- ITS FALSE NEIGHBOUR: 'it returns false'. Refute it at one input. -/
def deplogFormsWrong : ChangeSpec := { name := "deplogForms", fn := fun _ => fun
  | [d1, d2] => { results := [.lit (.bool false)], args := [d1, d2] }
  | _ => none }
def DeplogFormsWrongFalsely : Prop := deplogFormsRow.holds Tryd.pinned (OpenSpec.ofChange deplogFormsWrong)

/-- 'cruciblelaw16.DeplogCompacts': WHATEVER THE INPUT: true; the input reads as it did. -/
def deplogCompactsSpec : ChangeSpec := { name := "deplogCompacts", fn := fun _ => fun
  | [d1, d2] => { results := [.lit (.bool true)], args := [d1, d2] }
  | _ => none }
def deplogCompactsRow : OpenClaim := { program := "ytkplcmcmpdhigaadoor", sum := "dec200b0513f2eba1a9a887e702f1114140e07d885bcef33dc53f8262e326361", func := "crucible/cruciblelaw16.DeplogCompacts", spec := "deplogCompacts", inPlace := ["internal/bytealg.IndexByteString", "internal/bytealg.IndexString", "internal/bytealg.CountString", "internal/abi.NoEscape", "internal/bytealg.MakeNoZero"], unfollowed := true, recurses := true, named := ["unicode/utf8.first", "unicode/utf8.acceptRanges", "internal/bytealg.MaxLen"], apart := false, laid := [("unicode/utf8.acceptRanges", laid_unicode_utf8_acceptRanges), ("unicode/utf8.first", laid_unicode_utf8_first)] }
def DeplogCompactsSaid : Prop := deplogCompactsRow.holds Tryd.pinned (OpenSpec.ofChange deplogCompactsSpec)

/-- ITS FALSE NEIGHBOUR: 'it returns false'. Refute it at one input. -/
def deplogCompactsWrong : ChangeSpec := { name := "deplogCompacts", fn := fun _ => fun
  | [d1, d2] => { results := [.lit (.bool false)], args := [d1, d2] }
  | _ => none }
def DeplogCompactsWrongFalsely : Prop := deplogCompactsRow.holds Tryd.pinned (OpenSpec.ofChange deplogCompactsWrong)

/-- 'cruciblelaw16.DeplogBad': WHATEVER THE INPUT: true; the input reads as it did. -/
def deplogBadSpec : ChangeSpec := { name := "deplogBad", fn := fun _ => fun
  | [d1, d2, d3] => { results := [.lit (.bool true)], args := [d1, d2, d3] }
  | _ => none }
def deplogBadRow : OpenClaim := { program := "ytkplcmcmpdhigaadoor", sum := "dec200b0513f2eba1a9a887e702f1114140e07d885bcef33dc53f8262e326361", func := "crucible/cruciblelaw16.DeplogBad", spec := "deplogBad", inPlace := ["internal/bytealg.IndexByteString", "internal/bytealg.IndexString", "internal/bytealg.CountString", "internal/abi.NoEscape", "internal/bytealg.MakeNoZero"], unfollowed := true, recurses := true, named := ["unicode/utf8.first", "unicode/utf8.acceptRanges", "internal/bytealg.MaxLen"], apart := false, laid := [("unicode/utf8.acceptRanges", laid_unicode_utf8_acceptRanges), ("unicode/utf8.first", laid_unicode_utf8_first)] }
def DeplogBadSaid : Prop := deplogBadRow.holds Tryd.pinned (OpenSpec.ofChange deplogBadSpec)

/-- ITS FALSE NEIGHBOUR: 'it returns false'. Refute it at one input. -/
def deplogBadWrong : ChangeSpec := { name := "deplogBad", fn := fun _ => fun
  | [d1, d2, d3] => { results := [.lit (.bool false)], args := [d1, d2, d3] }
  | _ => none }
def DeplogBadWrongFalsely : Prop := deplogBadRow.holds Tryd.pinned (OpenSpec.ofChange deplogBadWrong)

/-- 'cruciblelaw16.DeplogTwo': WHATEVER THE INPUT: true; the input reads as it did. -/
def deplogTwoSpec : ChangeSpec := { name := "deplogTwo", fn := fun _ => fun
  | [d1, d2] => { results := [.lit (.bool true)], args := [d1, d2] }
  | _ => none }
def deplogTwoRow : OpenClaim := { program := "ytkplcmcmpdhigaadoor", sum := "dec200b0513f2eba1a9a887e702f1114140e07d885bcef33dc53f8262e326361", func := "crucible/cruciblelaw16.DeplogTwo", spec := "deplogTwo", inPlace := ["internal/bytealg.IndexByteString", "internal/bytealg.IndexString", "internal/bytealg.CountString", "internal/abi.NoEscape", "internal/bytealg.MakeNoZero"], unfollowed := true, recurses := true, named := ["unicode/utf8.first", "unicode/utf8.acceptRanges", "internal/bytealg.MaxLen"], apart := false, laid := [("unicode/utf8.acceptRanges", laid_unicode_utf8_acceptRanges), ("unicode/utf8.first", laid_unicode_utf8_first)] }
def DeplogTwoSaid : Prop := deplogTwoRow.holds Tryd.pinned (OpenSpec.ofChange deplogTwoSpec)

/-- ITS FALSE NEIGHBOUR: 'it returns false'. Refute it at one input. -/
def deplogTwoWrong : ChangeSpec := { name := "deplogTwo", fn := fun _ => fun
  | [d1, d2] => { results := [.lit (.bool false)], args := [d1, d2] }
  | _ => none }
def DeplogTwoWrongFalsely : Prop := deplogTwoRow.holds Tryd.pinned (OpenSpec.ofChange deplogTwoWrong)

/-- 'cruciblelaw16.DeplogLast': WHATEVER THE INPUT: true; the input reads as it did. -/
def deplogLastSpec : ChangeSpec := { name := "deplogLast", fn := fun _ => fun
  | [d1, d2, d3] => { results := [.lit (.bool true)], args := [d1, d2, d3] }
  | _ => none }
def deplogLastRow : OpenClaim := { program := "ytkplcmcmpdhigaadoor", sum := "dec200b0513f2eba1a9a887e702f1114140e07d885bcef33dc53f8262e326361", func := "crucible/cruciblelaw16.DeplogLast", spec := "deplogLast", inPlace := ["internal/bytealg.IndexByteString", "internal/bytealg.IndexString", "internal/bytealg.CountString", "internal/abi.NoEscape", "internal/bytealg.MakeNoZero"], unfollowed := true, recurses := true, named := ["unicode/utf8.first", "unicode/utf8.acceptRanges", "internal/bytealg.MaxLen"], apart := false, laid := [("unicode/utf8.acceptRanges", laid_unicode_utf8_acceptRanges), ("unicode/utf8.first", laid_unicode_utf8_first)] }
def DeplogLastSaid : Prop := deplogLastRow.holds Tryd.pinned (OpenSpec.ofChange deplogLastSpec)

/-- ITS FALSE NEIGHBOUR: 'it returns false'. Refute it at one input. -/
def deplogLastWrong : ChangeSpec := { name := "deplogLast", fn := fun _ => fun
  | [d1, d2, d3] => { results := [.lit (.bool false)], args := [d1, d2, d3] }
  | _ => none }
def DeplogLastWrongFalsely : Prop := deplogLastRow.holds Tryd.pinned (OpenSpec.ofChange deplogLastWrong)

/-- 'cruciblelaw16.DeplogLoad': WHATEVER THE INPUT: true; the input reads as it did. -/
def deplogLoadSpec : ChangeSpec := { name := "deplogLoad", fn := fun _ => fun
  | [d] => { results := [.lit (.bool true)], args := [d] }
  | _ => none }
def deplogLoadRow : OpenClaim := { program := "ytkplcmcmpdhigaadoor", sum := "dec200b0513f2eba1a9a887e702f1114140e07d885bcef33dc53f8262e326361", func := "crucible/cruciblelaw16.DeplogLoad", spec := "deplogLoad", inPlace := ["internal/bytealg.IndexByteString", "internal/bytealg.IndexString", "internal/bytealg.CountString", "internal/abi.NoEscape", "internal/bytealg.MakeNoZero"], unfollowed := true, recurses := true, named := ["unicode/utf8.first", "unicode/utf8.acceptRanges", "internal/bytealg.MaxLen"], apart := false, laid := [("unicode/utf8.acceptRanges", laid_unicode_utf8_acceptRanges), ("unicode/utf8.first", laid_unicode_utf8_first)] }
def DeplogLoadSaid : Prop := deplogLoadRow.holds Tryd.pinned (OpenSpec.ofChange deplogLoadSpec)

/-- ITS FALSE NEIGHBOUR: 'it returns false'. Refute it at one input. -/
def deplogLoadWrong : ChangeSpec := { name := "deplogLoad", fn := fun _ => fun
  | [d] => { results := [.lit (.bool false)], args := [d] }
  | _ => none }
def DeplogLoadWrongFalsely : Prop := deplogLoadRow.holds Tryd.pinned (OpenSpec.ofChange deplogLoadWrong)

/- THE SECOND FORM. 'bulk': how many values and letters a reading holds, each counted each time it is reached (what is shared counts as often as it is met; a slice's spare places count too). A statement '..UptoSaid' is the law's where the arguments, and the package variables that the reading takes, are together of bulk at most 1048576: NARROWER than '..Said'. Prove '..Said' where nothing that the law and all that it calls make is longer than what came in: it says more and counts as full. Else prove '..UptoSaid'. A law counts once. -/
mutual
def uptoBulk {H : Type} : DataW H → Nat
  | .lit (.string bytes) => bytes.length + 1
  | .lit _ => 1
  | .nil => 1
  | .ptr d => uptoBulk d + 1
  | .slice elems spare => uptoBulkAll elems + uptoBulkAll spare + 1
  | .agg parts => uptoBulkAll parts + 1
  | .iface _ d => uptoBulk d + 1
  | .map entries => uptoBulkEntries entries + 1
  | .held _ => 1
def uptoBulkAll {H : Type} : List (DataW H) → Nat
  | [] => 0
  | d :: r => uptoBulk d + uptoBulkAll r
def uptoBulkEntries {H : Type} : List (Lit × DataW H) → Nat
  | [] => 0
  | x :: r => uptoBulkEntry x + uptoBulkEntries r
def uptoBulkEntry {H : Type} : Lit × DataW H → Nat
  | (.string bytes, d) => bytes.length + uptoBulk d + 1
  | (_, d) => uptoBulk d + 1
 end
def uptoSmall : (H : Type) → List (DataW H) → Bool := fun _ ds => decide (uptoBulkAll ds ≤ 1048576)
def OpenSpec.upto (s : _root_.Go.ChangeSpec) : _root_.Go.OpenSpec := { _root_.Go.OpenSpec.ofChange s with cond := some uptoSmall }

/-- 'cruciblelaw11.Signs', WHERE WHAT IT READS IS OF BULK AT MOST 1048576: true; the input reads as it did. -/
def signsUptoRow : OpenClaim := { program := "ytkplcmcmpdhigaadoor", sum := "dec200b0513f2eba1a9a887e702f1114140e07d885bcef33dc53f8262e326361", func := "crucible/cruciblelaw11.Signs", spec := "signs", inPlace := ["internal/bytealg.IndexByteString", "internal/bytealg.IndexString", "internal/bytealg.CountString", "internal/abi.NoEscape", "internal/bytealg.MakeNoZero"], unfollowed := true, recurses := true, named := ["unicode/utf8.first", "unicode/utf8.acceptRanges", "internal/bytealg.MaxLen"], apart := false, laid := [("unicode/utf8.acceptRanges", laid_unicode_utf8_acceptRanges), ("unicode/utf8.first", laid_unicode_utf8_first)], narrowed := true }
def SignsUptoSaid : Prop := signsUptoRow.holds Tryd.pinned (OpenSpec.upto signsSpec)

/-- 'cruciblelaw11.SignForms', WHERE WHAT IT READS IS OF BULK AT MOST 1048576: true; the input reads as it did. -/
def signFormsUptoRow : OpenClaim := { program := "ytkplcmcmpdhigaadoor", sum := "dec200b0513f2eba1a9a887e702f1114140e07d885bcef33dc53f8262e326361", func := "crucible/cruciblelaw11.SignForms", spec := "signForms", inPlace := ["internal/bytealg.IndexByteString", "internal/bytealg.IndexString", "internal/bytealg.CountString", "internal/abi.NoEscape", "internal/bytealg.MakeNoZero"], unfollowed := true, recurses := true, named := ["unicode/utf8.first", "unicode/utf8.acceptRanges", "internal/bytealg.MaxLen"], apart := false, laid := [("unicode/utf8.acceptRanges", laid_unicode_utf8_acceptRanges), ("unicode/utf8.first", laid_unicode_utf8_first)], narrowed := true }
def SignFormsUptoSaid : Prop := signFormsUptoRow.holds Tryd.pinned (OpenSpec.upto signFormsSpec)

/-- 'cruciblelaw11.SignOther', WHERE WHAT IT READS IS OF BULK AT MOST 1048576: true; the input reads as it did. -/
def signOtherUptoRow : OpenClaim := { program := "ytkplcmcmpdhigaadoor", sum := "dec200b0513f2eba1a9a887e702f1114140e07d885bcef33dc53f8262e326361", func := "crucible/cruciblelaw11.SignOther", spec := "signOther", inPlace := ["internal/bytealg.IndexByteString", "internal/bytealg.IndexString", "internal/bytealg.CountString", "internal/abi.NoEscape", "internal/bytealg.MakeNoZero"], unfollowed := true, recurses := true, named := ["unicode/utf8.first", "unicode/utf8.acceptRanges", "internal/bytealg.MaxLen"], apart := false, laid := [("unicode/utf8.acceptRanges", laid_unicode_utf8_acceptRanges), ("unicode/utf8.first", laid_unicode_utf8_first)], narrowed := true }
def SignOtherUptoSaid : Prop := signOtherUptoRow.holds Tryd.pinned (OpenSpec.upto signOtherSpec)

/-- 'cruciblelaw11.SignParts', WHERE WHAT IT READS IS OF BULK AT MOST 1048576: true; the input reads as it did. -/
def signPartsUptoRow : OpenClaim := { program := "ytkplcmcmpdhigaadoor", sum := "dec200b0513f2eba1a9a887e702f1114140e07d885bcef33dc53f8262e326361", func := "crucible/cruciblelaw11.SignParts", spec := "signParts", inPlace := ["internal/bytealg.IndexByteString", "internal/bytealg.IndexString", "internal/bytealg.CountString", "internal/abi.NoEscape", "internal/bytealg.MakeNoZero"], unfollowed := true, recurses := true, named := ["unicode/utf8.first", "unicode/utf8.acceptRanges", "internal/bytealg.MaxLen"], apart := false, laid := [("unicode/utf8.acceptRanges", laid_unicode_utf8_acceptRanges), ("unicode/utf8.first", laid_unicode_utf8_first)], narrowed := true }
def SignPartsUptoSaid : Prop := signPartsUptoRow.holds Tryd.pinned (OpenSpec.upto signPartsSpec)

/-- 'cruciblelaw15.Deprecs', WHERE WHAT IT READS IS OF BULK AT MOST 1048576: true; the input reads as it did. -/
def deprecsUptoRow : OpenClaim := { program := "ytkplcmcmpdhigaadoor", sum := "dec200b0513f2eba1a9a887e702f1114140e07d885bcef33dc53f8262e326361", func := "crucible/cruciblelaw15.Deprecs", spec := "deprecs", inPlace := ["internal/bytealg.IndexByteString", "internal/bytealg.IndexString", "internal/bytealg.CountString", "internal/abi.NoEscape", "internal/bytealg.MakeNoZero"], unfollowed := true, recurses := true, named := ["unicode/utf8.first", "unicode/utf8.acceptRanges", "internal/bytealg.MaxLen"], apart := false, laid := [("unicode/utf8.acceptRanges", laid_unicode_utf8_acceptRanges), ("unicode/utf8.first", laid_unicode_utf8_first)], narrowed := true }
def DeprecsUptoSaid : Prop := deprecsUptoRow.holds Tryd.pinned (OpenSpec.upto deprecsSpec)

/-- 'cruciblelaw15.DeprecForms', WHERE WHAT IT READS IS OF BULK AT MOST 1048576: true; the input reads as it did. -/
def deprecFormsUptoRow : OpenClaim := { program := "ytkplcmcmpdhigaadoor", sum := "dec200b0513f2eba1a9a887e702f1114140e07d885bcef33dc53f8262e326361", func := "crucible/cruciblelaw15.DeprecForms", spec := "deprecForms", inPlace := ["internal/bytealg.IndexByteString", "internal/bytealg.IndexString", "internal/bytealg.CountString", "internal/abi.NoEscape", "internal/bytealg.MakeNoZero"], unfollowed := true, recurses := true, named := ["unicode/utf8.first", "unicode/utf8.acceptRanges", "internal/bytealg.MaxLen"], apart := false, laid := [("unicode/utf8.acceptRanges", laid_unicode_utf8_acceptRanges), ("unicode/utf8.first", laid_unicode_utf8_first)], narrowed := true }
def DeprecFormsUptoSaid : Prop := deprecFormsUptoRow.holds Tryd.pinned (OpenSpec.upto deprecFormsSpec)

/-- 'cruciblelaw15.DeprecUnlike', WHERE WHAT IT READS IS OF BULK AT MOST 1048576: true; the input reads as it did. -/
def deprecUnlikeUptoRow : OpenClaim := { program := "ytkplcmcmpdhigaadoor", sum := "dec200b0513f2eba1a9a887e702f1114140e07d885bcef33dc53f8262e326361", func := "crucible/cruciblelaw15.DeprecUnlike", spec := "deprecUnlike", inPlace := ["internal/bytealg.IndexByteString", "internal/bytealg.IndexString", "internal/bytealg.CountString", "internal/abi.NoEscape", "internal/bytealg.MakeNoZero"], unfollowed := true, recurses := true, named := ["unicode/utf8.first", "unicode/utf8.acceptRanges", "internal/bytealg.MaxLen"], apart := false, laid := [("unicode/utf8.acceptRanges", laid_unicode_utf8_acceptRanges), ("unicode/utf8.first", laid_unicode_utf8_first)], narrowed := true }
def DeprecUnlikeUptoSaid : Prop := deprecUnlikeUptoRow.holds Tryd.pinned (OpenSpec.upto deprecUnlikeSpec)

/-- 'cruciblelaw15.DeprecSizes', WHERE WHAT IT READS IS OF BULK AT MOST 1048576: true; the input reads as it did. -/
def deprecSizesUptoRow : OpenClaim := { program := "ytkplcmcmpdhigaadoor", sum := "dec200b0513f2eba1a9a887e702f1114140e07d885bcef33dc53f8262e326361", func := "crucible/cruciblelaw15.DeprecSizes", spec := "deprecSizes", inPlace := ["internal/bytealg.IndexByteString", "internal/bytealg.IndexString", "internal/bytealg.CountString", "internal/abi.NoEscape", "internal/bytealg.MakeNoZero"], unfollowed := true, recurses := true, named := ["unicode/utf8.first", "unicode/utf8.acceptRanges", "internal/bytealg.MaxLen"], apart := false, laid := [("unicode/utf8.acceptRanges", laid_unicode_utf8_acceptRanges), ("unicode/utf8.first", laid_unicode_utf8_first)], narrowed := true }
def DeprecSizesUptoSaid : Prop := deprecSizesUptoRow.holds Tryd.pinned (OpenSpec.upto deprecSizesSpec)

/-- 'cruciblelaw16.Deplogs', WHERE WHAT IT READS IS OF BULK AT MOST 1048576: true; the input reads as it did. -/
def deplogsUptoRow : OpenClaim := { program := "ytkplcmcmpdhigaadoor", sum := "dec200b0513f2eba1a9a887e702f1114140e07d885bcef33dc53f8262e326361", func := "crucible/cruciblelaw16.Deplogs", spec := "deplogs", inPlace := ["internal/bytealg.IndexByteString", "internal/bytealg.IndexString", "internal/bytealg.CountString", "internal/abi.NoEscape", "internal/bytealg.MakeNoZero"], unfollowed := true, recurses := true, named := ["unicode/utf8.first", "unicode/utf8.acceptRanges", "internal/bytealg.MaxLen"], apart := false, laid := [("unicode/utf8.acceptRanges", laid_unicode_utf8_acceptRanges), ("unicode/utf8.first", laid_unicode_utf8_first)], narrowed := true }
def DeplogsUptoSaid : Prop := deplogsUptoRow.holds Tryd.pinned (OpenSpec.upto deplogsSpec)

/-- 'cruciblelaw16.DeplogCut', WHERE WHAT IT READS IS OF BULK AT MOST 1048576: true; the input reads as it did. -/
def deplogCutUptoRow : OpenClaim := { program := "ytkplcmcmpdhigaadoor", sum := "dec200b0513f2eba1a9a887e702f1114140e07d885bcef33dc53f8262e326361", func := "crucible/cruciblelaw16.DeplogCut", spec := "deplogCut", inPlace := ["internal/bytealg.IndexByteString", "internal/bytealg.IndexString", "internal/bytealg.CountString", "internal/abi.NoEscape", "internal/bytealg.MakeNoZero"], unfollowed := true, recurses := true, named := ["unicode/utf8.first", "unicode/utf8.acceptRanges", "internal/bytealg.MaxLen"], apart := false, laid := [("unicode/utf8.acceptRanges", laid_unicode_utf8_acceptRanges), ("unicode/utf8.first", laid_unicode_utf8_first)], narrowed := true }
def DeplogCutUptoSaid : Prop := deplogCutUptoRow.holds Tryd.pinned (OpenSpec.upto deplogCutSpec)

/-- 'cruciblelaw16.DeplogForms', WHERE WHAT IT READS IS OF BULK AT MOST 1048576: true; the input reads as it did. -/
def deplogFormsUptoRow : OpenClaim := { program := "ytkplcmcmpdhigaadoor", sum := "dec200b0513f2eba1a9a887e702f1114140e07d885bcef33dc53f8262e326361", func := "crucible/cruciblelaw16.DeplogForms", spec := "deplogForms", inPlace := ["internal/bytealg.IndexByteString", "internal/bytealg.IndexString", "internal/bytealg.CountString", "internal/abi.NoEscape", "internal/bytealg.MakeNoZero"], unfollowed := true, recurses := true, named := ["unicode/utf8.first", "unicode/utf8.acceptRanges", "internal/bytealg.MaxLen"], apart := false, laid := [("unicode/utf8.acceptRanges", laid_unicode_utf8_acceptRanges), ("unicode/utf8.first", laid_unicode_utf8_first)], narrowed := true }
def DeplogFormsUptoSaid : Prop := deplogFormsUptoRow.holds Tryd.pinned (OpenSpec.upto deplogFormsSpec)

/-- 'cruciblelaw16.DeplogCompacts', WHERE WHAT IT READS IS OF BULK AT MOST 1048576: true; the input reads as it did. -/
def deplogCompactsUptoRow : OpenClaim := { program := "ytkplcmcmpdhigaadoor", sum := "dec200b0513f2eba1a9a887e702f1114140e07d885bcef33dc53f8262e326361", func := "crucible/cruciblelaw16.DeplogCompacts", spec := "deplogCompacts", inPlace := ["internal/bytealg.IndexByteString", "internal/bytealg.IndexString", "internal/bytealg.CountString", "internal/abi.NoEscape", "internal/bytealg.MakeNoZero"], unfollowed := true, recurses := true, named := ["unicode/utf8.first", "unicode/utf8.acceptRanges", "internal/bytealg.MaxLen"], apart := false, laid := [("unicode/utf8.acceptRanges", laid_unicode_utf8_acceptRanges), ("unicode/utf8.first", laid_unicode_utf8_first)], narrowed := true }
def DeplogCompactsUptoSaid : Prop := deplogCompactsUptoRow.holds Tryd.pinned (OpenSpec.upto deplogCompactsSpec)

/-- 'cruciblelaw16.DeplogBad', WHERE WHAT IT READS IS OF BULK AT MOST 1048576: true; the input reads as it did. -/
def deplogBadUptoRow : OpenClaim := { program := "ytkplcmcmpdhigaadoor", sum := "dec200b0513f2eba1a9a887e702f1114140e07d885bcef33dc53f8262e326361", func := "crucible/cruciblelaw16.DeplogBad", spec := "deplogBad", inPlace := ["internal/bytealg.IndexByteString", "internal/bytealg.IndexString", "internal/bytealg.CountString", "internal/abi.NoEscape", "internal/bytealg.MakeNoZero"], unfollowed := true, recurses := true, named := ["unicode/utf8.first", "unicode/utf8.acceptRanges", "internal/bytealg.MaxLen"], apart := false, laid := [("unicode/utf8.acceptRanges", laid_unicode_utf8_acceptRanges), ("unicode/utf8.first", laid_unicode_utf8_first)], narrowed := true }
def DeplogBadUptoSaid : Prop := deplogBadUptoRow.holds Tryd.pinned (OpenSpec.upto deplogBadSpec)

/-- 'cruciblelaw16.DeplogTwo', WHERE WHAT IT READS IS OF BULK AT MOST 1048576: true; the input reads as it did. -/
def deplogTwoUptoRow : OpenClaim := { program := "ytkplcmcmpdhigaadoor", sum := "dec200b0513f2eba1a9a887e702f1114140e07d885bcef33dc53f8262e326361", func := "crucible/cruciblelaw16.DeplogTwo", spec := "deplogTwo", inPlace := ["internal/bytealg.IndexByteString", "internal/bytealg.IndexString", "internal/bytealg.CountString", "internal/abi.NoEscape", "internal/bytealg.MakeNoZero"], unfollowed := true, recurses := true, named := ["unicode/utf8.first", "unicode/utf8.acceptRanges", "internal/bytealg.MaxLen"], apart := false, laid := [("unicode/utf8.acceptRanges", laid_unicode_utf8_acceptRanges), ("unicode/utf8.first", laid_unicode_utf8_first)], narrowed := true }
def DeplogTwoUptoSaid : Prop := deplogTwoUptoRow.holds Tryd.pinned (OpenSpec.upto deplogTwoSpec)

/-- 'cruciblelaw16.DeplogLast', WHERE WHAT IT READS IS OF BULK AT MOST 1048576: true; the input reads as it did. -/
def deplogLastUptoRow : OpenClaim := { program := "ytkplcmcmpdhigaadoor", sum := "dec200b0513f2eba1a9a887e702f1114140e07d885bcef33dc53f8262e326361", func := "crucible/cruciblelaw16.DeplogLast", spec := "deplogLast", inPlace := ["internal/bytealg.IndexByteString", "internal/bytealg.IndexString", "internal/bytealg.CountString", "internal/abi.NoEscape", "internal/bytealg.MakeNoZero"], unfollowed := true, recurses := true, named := ["unicode/utf8.first", "unicode/utf8.acceptRanges", "internal/bytealg.MaxLen"], apart := false, laid := [("unicode/utf8.acceptRanges", laid_unicode_utf8_acceptRanges), ("unicode/utf8.first", laid_unicode_utf8_first)], narrowed := true }
def DeplogLastUptoSaid : Prop := deplogLastUptoRow.holds Tryd.pinned (OpenSpec.upto deplogLastSpec)

/-- 'cruciblelaw16.DeplogLoad', WHERE WHAT IT READS IS OF BULK AT MOST 1048576: true; the input reads as it did. -/
def deplogLoadUptoRow : OpenClaim := { program := "ytkplcmcmpdhigaadoor", sum := "dec200b0513f2eba1a9a887e702f1114140e07d885bcef33dc53f8262e326361", func := "crucible/cruciblelaw16.DeplogLoad", spec := "deplogLoad", inPlace := ["internal/bytealg.IndexByteString", "internal/bytealg.IndexString", "internal/bytealg.CountString", "internal/abi.NoEscape", "internal/bytealg.MakeNoZero"], unfollowed := true, recurses := true, named := ["unicode/utf8.first", "unicode/utf8.acceptRanges", "internal/bytealg.MaxLen"], apart := false, laid := [("unicode/utf8.acceptRanges", laid_unicode_utf8_acceptRanges), ("unicode/utf8.first", laid_unicode_utf8_first)], narrowed := true }
def DeplogLoadUptoSaid : Prop := deplogLoadUptoRow.holds Tryd.pinned (OpenSpec.upto deplogLoadSpec)

end Rows
end Go.Proofs.YtkplcmcmpdhigaaDoor
