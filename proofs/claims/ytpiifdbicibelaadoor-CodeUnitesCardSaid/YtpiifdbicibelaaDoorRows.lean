/-
  NARROWER THAN 'FOR EVERY INPUT', by the rows' own cells (each row's printed sentence says how): CodeEncodes: laid · CodeOrders: laid · CodeMeets: laid · CodeRanges: laid · CodeBegins: laid · CodeDecodes: laid · CodeBack: laid · CodeUnites: laid · CodeWhole: laid · CodeOwn: laid · RowEncodes: laid · RowChanges: laid · RowDecodes: laid · RowBack: laid · RowApplies: laid · RowOwn: laid · RowTurns: laid · RowKeys: laid.
  DERIVED. THE GIVEN ROWS OF THIS SEAT. 18 by the template 'for every input the law returns true; each argument reads behind the call as it read before'; 0 by the template 'total and deterministic' (their statements: YtpiifdbicibelaaDoorTotals.lean).
  GIVEN WITH THE SEED: the statements are not yours to turn. If you find one false, say at which input.
  Laid BY PROGRAM, IN A SANDBOX (cutbox-rows.mjs): the forced cells as the released guide's own fill.sh prints them over the translation f7029a1c73f91c57… (all of the seat's roots in one cut). By AI agents, Wed Nov 11 2026. No macro, syntax, notation, axiom, sorry.
-/
import Derived.Test.YtpiifdbicibelaaDoorChecked
import GoSem.PinnedTables
import GoSem.Claim
import GoSem.ClaimJoined
import GoSem.ClaimMapViews
import Derived.JoinedTies
import Derived.KernelRfl
namespace Go.Proofs.YtpiifdbicibelaaDoor
/- THE CELL 'sum', in the pinned program and in every row, IS THE sha256 OF THE DUMP (.gsa) THAT YtpiifdbicibelaaDoorProg.lean LOADS. Nothing in Lean hashes anything: it is a label: what it is worth is what the hold of that sum in a sandbox is worth. -/
noncomputable def Tryd.pinned : Pinned := { name := "ytpiifdbicibelaadoor", sum := "f7029a1c73f91c57f98880870038c341d2792eafc984f0387a30924a6f2c83e2", checked := Tryd.checked }
namespace Rows
def none {H : Type} : Left H := { results := [], args := [] }

/- WHAT THE LISTED PACKAGE-LEVEL VARIABLES READ AS WHEN THE CALL BEGINS. Each datum BY PROGRAM (the guide's laid-datum.mjs) off the statement by which the dump's own 'gosem.cut.vars' lays the variable. In a bare row this is a premise. The card (YtpiifdbicibelaaDoorCards.lean) ties it to the program's text. -/
def laid_unicode_utf8_acceptRanges {H : Type} : DataW H := .agg [.agg [.lit (.int .u8 128), .lit (.int .u8 191)], .agg [.lit (.int .u8 160), .lit (.int .u8 191)], .agg [.lit (.int .u8 128), .lit (.int .u8 159)], .agg [.lit (.int .u8 144), .lit (.int .u8 191)], .agg [.lit (.int .u8 128), .lit (.int .u8 143)], .agg [.lit (.int .u8 0), .lit (.int .u8 0)], .agg [.lit (.int .u8 0), .lit (.int .u8 0)], .agg [.lit (.int .u8 0), .lit (.int .u8 0)], .agg [.lit (.int .u8 0), .lit (.int .u8 0)], .agg [.lit (.int .u8 0), .lit (.int .u8 0)], .agg [.lit (.int .u8 0), .lit (.int .u8 0)], .agg [.lit (.int .u8 0), .lit (.int .u8 0)], .agg [.lit (.int .u8 0), .lit (.int .u8 0)], .agg [.lit (.int .u8 0), .lit (.int .u8 0)], .agg [.lit (.int .u8 0), .lit (.int .u8 0)], .agg [.lit (.int .u8 0), .lit (.int .u8 0)]]
/-- One of Go's own tables, pinned by name: the form's constant. -/
def laid_unicode_utf8_first : DataW Unit := Go.Pinned.utf8First

/-- 'vellumlaw02.CodeEncodes': WHATEVER THE INPUT: true; the input reads as it did. -/
def codeEncodesSpec : ChangeSpec := { name := "codeEncodes", fn := fun _ => fun
  | [d] => { results := [.lit (.bool true)], args := [d] }
  | _ => none }
def codeEncodesRow : OpenClaim := { program := "ytpiifdbicibelaadoor", sum := "f7029a1c73f91c57f98880870038c341d2792eafc984f0387a30924a6f2c83e2", func := "vellum/vellumlaw02.CodeEncodes", spec := "codeEncodes", inPlace := ["math.Float64bits", "math.Float64frombits", "internal/bytealg.CountString", "internal/bytealg.IndexByteString", "internal/bytealg.IndexString", "internal/abi.NoEscape", "internal/bytealg.MakeNoZero"], named := ["unicode/utf8.first", "unicode/utf8.acceptRanges", "internal/bytealg.MaxLen"], apart := false, laid := [("unicode/utf8.acceptRanges", laid_unicode_utf8_acceptRanges), ("unicode/utf8.first", laid_unicode_utf8_first)] }
def CodeEncodesSaid : Prop := codeEncodesRow.holds Tryd.pinned (OpenSpec.ofChange codeEncodesSpec)

/-- ITS FALSE NEIGHBOUR: 'it returns false'. Refute it at one input. -/
def codeEncodesWrong : ChangeSpec := { name := "codeEncodes", fn := fun _ => fun
  | [d] => { results := [.lit (.bool false)], args := [d] }
  | _ => none }
def CodeEncodesWrongFalsely : Prop := codeEncodesRow.holds Tryd.pinned (OpenSpec.ofChange codeEncodesWrong)

/-- 'vellumlaw02.CodeOrders': WHATEVER THE INPUT: true; the input reads as it did. -/
def codeOrdersSpec : ChangeSpec := { name := "codeOrders", fn := fun _ => fun
  | [d1, d2] => { results := [.lit (.bool true)], args := [d1, d2] }
  | _ => none }
def codeOrdersRow : OpenClaim := { program := "ytpiifdbicibelaadoor", sum := "f7029a1c73f91c57f98880870038c341d2792eafc984f0387a30924a6f2c83e2", func := "vellum/vellumlaw02.CodeOrders", spec := "codeOrders", inPlace := ["math.Float64bits", "math.Float64frombits", "internal/bytealg.CountString", "internal/bytealg.IndexByteString", "internal/bytealg.IndexString", "internal/abi.NoEscape", "internal/bytealg.MakeNoZero"], named := ["unicode/utf8.first", "unicode/utf8.acceptRanges", "internal/bytealg.MaxLen"], apart := false, laid := [("unicode/utf8.acceptRanges", laid_unicode_utf8_acceptRanges), ("unicode/utf8.first", laid_unicode_utf8_first)] }
def CodeOrdersSaid : Prop := codeOrdersRow.holds Tryd.pinned (OpenSpec.ofChange codeOrdersSpec)

/-- ITS FALSE NEIGHBOUR: 'it returns false'. Refute it at one input. -/
def codeOrdersWrong : ChangeSpec := { name := "codeOrders", fn := fun _ => fun
  | [d1, d2] => { results := [.lit (.bool false)], args := [d1, d2] }
  | _ => none }
def CodeOrdersWrongFalsely : Prop := codeOrdersRow.holds Tryd.pinned (OpenSpec.ofChange codeOrdersWrong)

/-- 'vellumlaw02.CodeMeets': WHATEVER THE INPUT: true; the input reads as it did. -/
def codeMeetsSpec : ChangeSpec := { name := "codeMeets", fn := fun _ => fun
  | [d1, d2, d3] => { results := [.lit (.bool true)], args := [d1, d2, d3] }
  | _ => none }
def codeMeetsRow : OpenClaim := { program := "ytpiifdbicibelaadoor", sum := "f7029a1c73f91c57f98880870038c341d2792eafc984f0387a30924a6f2c83e2", func := "vellum/vellumlaw02.CodeMeets", spec := "codeMeets", inPlace := ["math.Float64bits", "math.Float64frombits", "internal/bytealg.CountString", "internal/bytealg.IndexByteString", "internal/bytealg.IndexString", "internal/abi.NoEscape", "internal/bytealg.MakeNoZero"], named := ["unicode/utf8.first", "unicode/utf8.acceptRanges", "internal/bytealg.MaxLen"], apart := false, laid := [("unicode/utf8.acceptRanges", laid_unicode_utf8_acceptRanges), ("unicode/utf8.first", laid_unicode_utf8_first)] }
def CodeMeetsSaid : Prop := codeMeetsRow.holds Tryd.pinned (OpenSpec.ofChange codeMeetsSpec)

/-- ITS FALSE NEIGHBOUR: 'it returns false'. Refute it at one input. -/
def codeMeetsWrong : ChangeSpec := { name := "codeMeets", fn := fun _ => fun
  | [d1, d2, d3] => { results := [.lit (.bool false)], args := [d1, d2, d3] }
  | _ => none }
def CodeMeetsWrongFalsely : Prop := codeMeetsRow.holds Tryd.pinned (OpenSpec.ofChange codeMeetsWrong)

/-- 'vellumlaw02.CodeRanges': WHATEVER THE INPUT: true; the input reads as it did. -/
def codeRangesSpec : ChangeSpec := { name := "codeRanges", fn := fun _ => fun
  | [d1, d2] => { results := [.lit (.bool true)], args := [d1, d2] }
  | _ => none }
def codeRangesRow : OpenClaim := { program := "ytpiifdbicibelaadoor", sum := "f7029a1c73f91c57f98880870038c341d2792eafc984f0387a30924a6f2c83e2", func := "vellum/vellumlaw02.CodeRanges", spec := "codeRanges", inPlace := ["math.Float64bits", "math.Float64frombits", "internal/bytealg.CountString", "internal/bytealg.IndexByteString", "internal/bytealg.IndexString", "internal/abi.NoEscape", "internal/bytealg.MakeNoZero"], named := ["unicode/utf8.first", "unicode/utf8.acceptRanges", "internal/bytealg.MaxLen"], apart := false, laid := [("unicode/utf8.acceptRanges", laid_unicode_utf8_acceptRanges), ("unicode/utf8.first", laid_unicode_utf8_first)] }
def CodeRangesSaid : Prop := codeRangesRow.holds Tryd.pinned (OpenSpec.ofChange codeRangesSpec)

/-- ITS FALSE NEIGHBOUR: 'it returns false'. Refute it at one input. -/
def codeRangesWrong : ChangeSpec := { name := "codeRanges", fn := fun _ => fun
  | [d1, d2] => { results := [.lit (.bool false)], args := [d1, d2] }
  | _ => none }
def CodeRangesWrongFalsely : Prop := codeRangesRow.holds Tryd.pinned (OpenSpec.ofChange codeRangesWrong)

/-- 'vellumlaw02.CodeBegins': WHATEVER THE INPUT: true; the input reads as it did. -/
def codeBeginsSpec : ChangeSpec := { name := "codeBegins", fn := fun _ => fun
  | [d1, d2, d3] => { results := [.lit (.bool true)], args := [d1, d2, d3] }
  | _ => none }
def codeBeginsRow : OpenClaim := { program := "ytpiifdbicibelaadoor", sum := "f7029a1c73f91c57f98880870038c341d2792eafc984f0387a30924a6f2c83e2", func := "vellum/vellumlaw02.CodeBegins", spec := "codeBegins", inPlace := ["math.Float64bits", "math.Float64frombits", "internal/bytealg.CountString", "internal/bytealg.IndexByteString", "internal/bytealg.IndexString", "internal/abi.NoEscape", "internal/bytealg.MakeNoZero"], named := ["unicode/utf8.first", "unicode/utf8.acceptRanges", "internal/bytealg.MaxLen"], apart := false, laid := [("unicode/utf8.acceptRanges", laid_unicode_utf8_acceptRanges), ("unicode/utf8.first", laid_unicode_utf8_first)] }
def CodeBeginsSaid : Prop := codeBeginsRow.holds Tryd.pinned (OpenSpec.ofChange codeBeginsSpec)

/-- ITS FALSE NEIGHBOUR: 'it returns false'. Refute it at one input. -/
def codeBeginsWrong : ChangeSpec := { name := "codeBegins", fn := fun _ => fun
  | [d1, d2, d3] => { results := [.lit (.bool false)], args := [d1, d2, d3] }
  | _ => none }
def CodeBeginsWrongFalsely : Prop := codeBeginsRow.holds Tryd.pinned (OpenSpec.ofChange codeBeginsWrong)

/-- 'vellumlaw02.CodeDecodes': WHATEVER THE INPUT: true; the input reads as it did. -/
def codeDecodesSpec : ChangeSpec := { name := "codeDecodes", fn := fun _ => fun
  | [d] => { results := [.lit (.bool true)], args := [d] }
  | _ => none }
def codeDecodesRow : OpenClaim := { program := "ytpiifdbicibelaadoor", sum := "f7029a1c73f91c57f98880870038c341d2792eafc984f0387a30924a6f2c83e2", func := "vellum/vellumlaw02.CodeDecodes", spec := "codeDecodes", inPlace := ["math.Float64frombits", "math.Float64bits", "internal/abi.NoEscape", "internal/bytealg.CountString", "internal/bytealg.IndexByteString", "internal/bytealg.IndexString", "internal/bytealg.MakeNoZero"], named := ["unicode/utf8.first", "unicode/utf8.acceptRanges", "internal/bytealg.MaxLen"], apart := false, laid := [("unicode/utf8.acceptRanges", laid_unicode_utf8_acceptRanges), ("unicode/utf8.first", laid_unicode_utf8_first)] }
def CodeDecodesSaid : Prop := codeDecodesRow.holds Tryd.pinned (OpenSpec.ofChange codeDecodesSpec)

/-- ITS FALSE NEIGHBOUR: 'it returns false'. Refute it at one input. -/
def codeDecodesWrong : ChangeSpec := { name := "codeDecodes", fn := fun _ => fun
  | [d] => { results := [.lit (.bool false)], args := [d] }
  | _ => none }
def CodeDecodesWrongFalsely : Prop := codeDecodesRow.holds Tryd.pinned (OpenSpec.ofChange codeDecodesWrong)

/-- 'vellumlaw02.CodeBack': WHATEVER THE INPUT: true; the input reads as it did. -/
def codeBackSpec : ChangeSpec := { name := "codeBack", fn := fun _ => fun
  | [d1, d2] => { results := [.lit (.bool true)], args := [d1, d2] }
  | _ => none }
def codeBackRow : OpenClaim := { program := "ytpiifdbicibelaadoor", sum := "f7029a1c73f91c57f98880870038c341d2792eafc984f0387a30924a6f2c83e2", func := "vellum/vellumlaw02.CodeBack", spec := "codeBack", inPlace := ["math.Float64bits", "math.Float64frombits", "internal/bytealg.CountString", "internal/bytealg.IndexByteString", "internal/bytealg.IndexString", "internal/abi.NoEscape", "internal/bytealg.MakeNoZero"], named := ["unicode/utf8.first", "unicode/utf8.acceptRanges", "internal/bytealg.MaxLen"], apart := false, laid := [("unicode/utf8.acceptRanges", laid_unicode_utf8_acceptRanges), ("unicode/utf8.first", laid_unicode_utf8_first)] }
def CodeBackSaid : Prop := codeBackRow.holds Tryd.pinned (OpenSpec.ofChange codeBackSpec)

/-- ITS FALSE NEIGHBOUR: 'it returns false'. Refute it at one input. -/
def codeBackWrong : ChangeSpec := { name := "codeBack", fn := fun _ => fun
  | [d1, d2] => { results := [.lit (.bool false)], args := [d1, d2] }
  | _ => none }
def CodeBackWrongFalsely : Prop := codeBackRow.holds Tryd.pinned (OpenSpec.ofChange codeBackWrong)

/-- 'vellumlaw02.CodeUnites': WHATEVER THE INPUT: true; the input reads as it did. -/
def codeUnitesSpec : ChangeSpec := { name := "codeUnites", fn := fun _ => fun
  | [d] => { results := [.lit (.bool true)], args := [d] }
  | _ => none }
def codeUnitesRow : OpenClaim := { program := "ytpiifdbicibelaadoor", sum := "f7029a1c73f91c57f98880870038c341d2792eafc984f0387a30924a6f2c83e2", func := "vellum/vellumlaw02.CodeUnites", spec := "codeUnites", inPlace := ["internal/bytealg.abigen_runtime_cmpstring", "math.Float64bits", "math.Float64frombits", "internal/bytealg.CountString", "internal/bytealg.IndexByteString", "internal/bytealg.IndexString", "internal/abi.NoEscape", "internal/bytealg.MakeNoZero"], unfollowed := true, recurses := true, named := ["unicode/utf8.first", "unicode/utf8.acceptRanges", "internal/bytealg.MaxLen"], apart := false, laid := [("unicode/utf8.acceptRanges", laid_unicode_utf8_acceptRanges), ("unicode/utf8.first", laid_unicode_utf8_first)] }
def CodeUnitesSaid : Prop := codeUnitesRow.holds Tryd.pinned (OpenSpec.ofChange codeUnitesSpec)

/-- ITS FALSE NEIGHBOUR: 'it returns false'. Refute it at one input. -/
def codeUnitesWrong : ChangeSpec := { name := "codeUnites", fn := fun _ => fun
  | [d] => { results := [.lit (.bool false)], args := [d] }
  | _ => none }
def CodeUnitesWrongFalsely : Prop := codeUnitesRow.holds Tryd.pinned (OpenSpec.ofChange codeUnitesWrong)

/-- 'vellumlaw02.CodeWhole': WHATEVER THE INPUT: true; the input reads as it did. -/
def codeWholeSpec : ChangeSpec := { name := "codeWhole", fn := fun _ => fun
  | [d1, d2] => { results := [.lit (.bool true)], args := [d1, d2] }
  | _ => none }
def codeWholeRow : OpenClaim := { program := "ytpiifdbicibelaadoor", sum := "f7029a1c73f91c57f98880870038c341d2792eafc984f0387a30924a6f2c83e2", func := "vellum/vellumlaw02.CodeWhole", spec := "codeWhole", inPlace := ["internal/bytealg.abigen_runtime_cmpstring", "math.Float64bits", "math.Float64frombits", "internal/bytealg.CountString", "internal/bytealg.IndexByteString", "internal/bytealg.IndexString", "internal/abi.NoEscape", "internal/bytealg.MakeNoZero"], unfollowed := true, recurses := true, named := ["unicode/utf8.first", "unicode/utf8.acceptRanges", "internal/bytealg.MaxLen"], apart := false, laid := [("unicode/utf8.acceptRanges", laid_unicode_utf8_acceptRanges), ("unicode/utf8.first", laid_unicode_utf8_first)] }
def CodeWholeSaid : Prop := codeWholeRow.holds Tryd.pinned (OpenSpec.ofChange codeWholeSpec)

/-- ITS FALSE NEIGHBOUR: 'it returns false'. Refute it at one input. -/
def codeWholeWrong : ChangeSpec := { name := "codeWhole", fn := fun _ => fun
  | [d1, d2] => { results := [.lit (.bool false)], args := [d1, d2] }
  | _ => none }
def CodeWholeWrongFalsely : Prop := codeWholeRow.holds Tryd.pinned (OpenSpec.ofChange codeWholeWrong)

/-- 'vellumlaw02.CodeOwn': WHATEVER THE INPUT: true; the input reads as it did. -/
def codeOwnSpec : ChangeSpec := { name := "codeOwn", fn := fun _ => fun
  | [d1, d2] => { results := [.lit (.bool true)], args := [d1, d2] }
  | _ => none }
def codeOwnRow : OpenClaim := { program := "ytpiifdbicibelaadoor", sum := "f7029a1c73f91c57f98880870038c341d2792eafc984f0387a30924a6f2c83e2", func := "vellum/vellumlaw02.CodeOwn", spec := "codeOwn", inPlace := ["math.Float64bits", "math.Float64frombits", "internal/bytealg.CountString", "internal/bytealg.IndexByteString", "internal/bytealg.IndexString", "internal/abi.NoEscape", "internal/bytealg.MakeNoZero", "internal/bytealg.abigen_runtime_cmpstring"], unfollowed := true, recurses := true, named := ["unicode/utf8.first", "unicode/utf8.acceptRanges", "internal/bytealg.MaxLen"], apart := false, laid := [("unicode/utf8.acceptRanges", laid_unicode_utf8_acceptRanges), ("unicode/utf8.first", laid_unicode_utf8_first)] }
def CodeOwnSaid : Prop := codeOwnRow.holds Tryd.pinned (OpenSpec.ofChange codeOwnSpec)

/-- ITS FALSE NEIGHBOUR: 'it returns false'. Refute it at one input. -/
def codeOwnWrong : ChangeSpec := { name := "codeOwn", fn := fun _ => fun
  | [d1, d2] => { results := [.lit (.bool false)], args := [d1, d2] }
  | _ => none }
def CodeOwnWrongFalsely : Prop := codeOwnRow.holds Tryd.pinned (OpenSpec.ofChange codeOwnWrong)

/-- 'vellumlaw04.RowEncodes': WHATEVER THE INPUT: true; the input reads as it did. -/
def rowEncodesSpec : ChangeSpec := { name := "rowEncodes", fn := fun _ => fun
  | [d1, d2] => { results := [.lit (.bool true)], args := [d1, d2] }
  | _ => none }
def rowEncodesRow : OpenClaim := { program := "ytpiifdbicibelaadoor", sum := "f7029a1c73f91c57f98880870038c341d2792eafc984f0387a30924a6f2c83e2", func := "vellum/vellumlaw04.RowEncodes", spec := "rowEncodes", inPlace := ["internal/bytealg.IndexByteString", "internal/bytealg.IndexString", "math.Float64bits"], unfollowed := true, recurses := true, named := ["internal/bytealg.MaxLen", "unicode/utf8.first", "unicode/utf8.acceptRanges"], apart := false, laid := [("unicode/utf8.acceptRanges", laid_unicode_utf8_acceptRanges), ("unicode/utf8.first", laid_unicode_utf8_first)] }
def RowEncodesSaid : Prop := rowEncodesRow.holds Tryd.pinned (OpenSpec.ofChange rowEncodesSpec)

/-- ITS FALSE NEIGHBOUR: 'it returns false'. Refute it at one input. -/
def rowEncodesWrong : ChangeSpec := { name := "rowEncodes", fn := fun _ => fun
  | [d1, d2] => { results := [.lit (.bool false)], args := [d1, d2] }
  | _ => none }
def RowEncodesWrongFalsely : Prop := rowEncodesRow.holds Tryd.pinned (OpenSpec.ofChange rowEncodesWrong)

/-- 'vellumlaw04.RowChanges': WHATEVER THE INPUT: true; the input reads as it did. -/
def rowChangesSpec : ChangeSpec := { name := "rowChanges", fn := fun _ => fun
  | [d1, d2, d3] => { results := [.lit (.bool true)], args := [d1, d2, d3] }
  | _ => none }
def rowChangesRow : OpenClaim := { program := "ytpiifdbicibelaadoor", sum := "f7029a1c73f91c57f98880870038c341d2792eafc984f0387a30924a6f2c83e2", func := "vellum/vellumlaw04.RowChanges", spec := "rowChanges", inPlace := ["internal/bytealg.IndexByteString", "internal/bytealg.IndexString", "math.Float64bits"], unfollowed := true, recurses := true, named := ["internal/bytealg.MaxLen", "unicode/utf8.first", "unicode/utf8.acceptRanges"], apart := false, laid := [("unicode/utf8.acceptRanges", laid_unicode_utf8_acceptRanges), ("unicode/utf8.first", laid_unicode_utf8_first)] }
def RowChangesSaid : Prop := rowChangesRow.holds Tryd.pinned (OpenSpec.ofChange rowChangesSpec)

/-- ITS FALSE NEIGHBOUR: 'it returns false'. Refute it at one input. -/
def rowChangesWrong : ChangeSpec := { name := "rowChanges", fn := fun _ => fun
  | [d1, d2, d3] => { results := [.lit (.bool false)], args := [d1, d2, d3] }
  | _ => none }
def RowChangesWrongFalsely : Prop := rowChangesRow.holds Tryd.pinned (OpenSpec.ofChange rowChangesWrong)

/-- 'vellumlaw04.RowDecodes': WHATEVER THE INPUT: true; the input reads as it did. -/
def rowDecodesSpec : ChangeSpec := { name := "rowDecodes", fn := fun _ => fun
  | [d1, d2] => { results := [.lit (.bool true)], args := [d1, d2] }
  | _ => none }
def rowDecodesRow : OpenClaim := { program := "ytpiifdbicibelaadoor", sum := "f7029a1c73f91c57f98880870038c341d2792eafc984f0387a30924a6f2c83e2", func := "vellum/vellumlaw04.RowDecodes", spec := "rowDecodes", inPlace := ["internal/bytealg.IndexByteString", "internal/bytealg.IndexString", "math.Float64bits", "math.Float64frombits"], unfollowed := true, recurses := true, named := ["internal/bytealg.MaxLen", "unicode/utf8.first", "unicode/utf8.acceptRanges"], apart := false, laid := [("unicode/utf8.acceptRanges", laid_unicode_utf8_acceptRanges), ("unicode/utf8.first", laid_unicode_utf8_first)] }
def RowDecodesSaid : Prop := rowDecodesRow.holds Tryd.pinned (OpenSpec.ofChange rowDecodesSpec)

/-- ITS FALSE NEIGHBOUR: 'it returns false'. Refute it at one input. -/
def rowDecodesWrong : ChangeSpec := { name := "rowDecodes", fn := fun _ => fun
  | [d1, d2] => { results := [.lit (.bool false)], args := [d1, d2] }
  | _ => none }
def RowDecodesWrongFalsely : Prop := rowDecodesRow.holds Tryd.pinned (OpenSpec.ofChange rowDecodesWrong)

/-- 'vellumlaw04.RowBack': WHATEVER THE INPUT: true; the input reads as it did. -/
def rowBackSpec : ChangeSpec := { name := "rowBack", fn := fun _ => fun
  | [d1, d2, d3] => { results := [.lit (.bool true)], args := [d1, d2, d3] }
  | _ => none }
def rowBackRow : OpenClaim := { program := "ytpiifdbicibelaadoor", sum := "f7029a1c73f91c57f98880870038c341d2792eafc984f0387a30924a6f2c83e2", func := "vellum/vellumlaw04.RowBack", spec := "rowBack", inPlace := ["internal/bytealg.IndexByteString", "internal/bytealg.IndexString", "math.Float64bits", "math.Float64frombits"], unfollowed := true, recurses := true, named := ["internal/bytealg.MaxLen", "unicode/utf8.first", "unicode/utf8.acceptRanges"], apart := false, laid := [("unicode/utf8.acceptRanges", laid_unicode_utf8_acceptRanges), ("unicode/utf8.first", laid_unicode_utf8_first)] }
def RowBackSaid : Prop := rowBackRow.holds Tryd.pinned (OpenSpec.ofChange rowBackSpec)

/-- ITS FALSE NEIGHBOUR: 'it returns false'. Refute it at one input. -/
def rowBackWrong : ChangeSpec := { name := "rowBack", fn := fun _ => fun
  | [d1, d2, d3] => { results := [.lit (.bool false)], args := [d1, d2, d3] }
  | _ => none }
def RowBackWrongFalsely : Prop := rowBackRow.holds Tryd.pinned (OpenSpec.ofChange rowBackWrong)

/-- 'vellumlaw04.RowApplies': WHATEVER THE INPUT: true; the input reads as it did. -/
def rowAppliesSpec : ChangeSpec := { name := "rowApplies", fn := fun _ => fun
  | [d1, d2, d3] => { results := [.lit (.bool true)], args := [d1, d2, d3] }
  | _ => none }
def rowAppliesRow : OpenClaim := { program := "ytpiifdbicibelaadoor", sum := "f7029a1c73f91c57f98880870038c341d2792eafc984f0387a30924a6f2c83e2", func := "vellum/vellumlaw04.RowApplies", spec := "rowApplies", inPlace := ["internal/bytealg.IndexByteString", "internal/bytealg.IndexString", "math.Float64bits", "math.Float64frombits"], unfollowed := true, recurses := true, named := ["internal/bytealg.MaxLen", "unicode/utf8.first", "unicode/utf8.acceptRanges"], apart := false, laid := [("unicode/utf8.acceptRanges", laid_unicode_utf8_acceptRanges), ("unicode/utf8.first", laid_unicode_utf8_first)] }
def RowAppliesSaid : Prop := rowAppliesRow.holds Tryd.pinned (OpenSpec.ofChange rowAppliesSpec)

/-- ITS FALSE NEIGHBOUR: 'it returns false'. Refute it at one input. -/
def rowAppliesWrong : ChangeSpec := { name := "rowApplies", fn := fun _ => fun
  | [d1, d2, d3] => { results := [.lit (.bool false)], args := [d1, d2, d3] }
  | _ => none }
def RowAppliesWrongFalsely : Prop := rowAppliesRow.holds Tryd.pinned (OpenSpec.ofChange rowAppliesWrong)

/-- 'vellumlaw04.RowOwn': WHATEVER THE INPUT: true; the input reads as it did. -/
def rowOwnSpec : ChangeSpec := { name := "rowOwn", fn := fun _ => fun
  | [d1, d2, d3] => { results := [.lit (.bool true)], args := [d1, d2, d3] }
  | _ => none }
def rowOwnRow : OpenClaim := { program := "ytpiifdbicibelaadoor", sum := "f7029a1c73f91c57f98880870038c341d2792eafc984f0387a30924a6f2c83e2", func := "vellum/vellumlaw04.RowOwn", spec := "rowOwn", inPlace := ["internal/bytealg.IndexByteString", "internal/bytealg.IndexString", "math.Float64bits", "math.Float64frombits"], unfollowed := true, recurses := true, named := ["internal/bytealg.MaxLen", "unicode/utf8.first", "unicode/utf8.acceptRanges"], apart := false, laid := [("unicode/utf8.acceptRanges", laid_unicode_utf8_acceptRanges), ("unicode/utf8.first", laid_unicode_utf8_first)] }
def RowOwnSaid : Prop := rowOwnRow.holds Tryd.pinned (OpenSpec.ofChange rowOwnSpec)

/-- ITS FALSE NEIGHBOUR: 'it returns false'. Refute it at one input. -/
def rowOwnWrong : ChangeSpec := { name := "rowOwn", fn := fun _ => fun
  | [d1, d2, d3] => { results := [.lit (.bool false)], args := [d1, d2, d3] }
  | _ => none }
def RowOwnWrongFalsely : Prop := rowOwnRow.holds Tryd.pinned (OpenSpec.ofChange rowOwnWrong)

/-- 'vellumlaw04.RowTurns': WHATEVER THE INPUT: true; the input reads as it did. -/
def rowTurnsSpec : ChangeSpec := { name := "rowTurns", fn := fun _ => fun
  | [d1, d2, d3] => { results := [.lit (.bool true)], args := [d1, d2, d3] }
  | _ => none }
def rowTurnsRow : OpenClaim := { program := "ytpiifdbicibelaadoor", sum := "f7029a1c73f91c57f98880870038c341d2792eafc984f0387a30924a6f2c83e2", func := "vellum/vellumlaw04.RowTurns", spec := "rowTurns", inPlace := ["internal/bytealg.IndexByteString", "internal/bytealg.IndexString", "math.Float64bits", "math.Float64frombits"], unfollowed := true, recurses := true, named := ["internal/bytealg.MaxLen", "unicode/utf8.first", "unicode/utf8.acceptRanges"], apart := false, laid := [("unicode/utf8.acceptRanges", laid_unicode_utf8_acceptRanges), ("unicode/utf8.first", laid_unicode_utf8_first)] }
def RowTurnsSaid : Prop := rowTurnsRow.holds Tryd.pinned (OpenSpec.ofChange rowTurnsSpec)

/-- ITS FALSE NEIGHBOUR: 'it returns false'. Refute it at one input. -/
def rowTurnsWrong : ChangeSpec := { name := "rowTurns", fn := fun _ => fun
  | [d1, d2, d3] => { results := [.lit (.bool false)], args := [d1, d2, d3] }
  | _ => none }
def RowTurnsWrongFalsely : Prop := rowTurnsRow.holds Tryd.pinned (OpenSpec.ofChange rowTurnsWrong)

/-- 'vellumlaw04.RowKeys': WHATEVER THE INPUT: true; the input reads as it did. -/
def rowKeysSpec : ChangeSpec := { name := "rowKeys", fn := fun _ => fun
  | [d1, d2, d3] => { results := [.lit (.bool true)], args := [d1, d2, d3] }
  | _ => none }
def rowKeysRow : OpenClaim := { program := "ytpiifdbicibelaadoor", sum := "f7029a1c73f91c57f98880870038c341d2792eafc984f0387a30924a6f2c83e2", func := "vellum/vellumlaw04.RowKeys", spec := "rowKeys", inPlace := ["internal/bytealg.IndexByteString", "internal/bytealg.IndexString", "math.Float64bits", "math.Float64frombits", "internal/bytealg.CountString", "internal/abi.NoEscape", "internal/bytealg.MakeNoZero"], unfollowed := true, recurses := true, named := ["internal/bytealg.MaxLen", "unicode/utf8.first", "unicode/utf8.acceptRanges"], apart := false, laid := [("unicode/utf8.acceptRanges", laid_unicode_utf8_acceptRanges), ("unicode/utf8.first", laid_unicode_utf8_first)] }
def RowKeysSaid : Prop := rowKeysRow.holds Tryd.pinned (OpenSpec.ofChange rowKeysSpec)

/-- ITS FALSE NEIGHBOUR: 'it returns false'. Refute it at one input. -/
def rowKeysWrong : ChangeSpec := { name := "rowKeys", fn := fun _ => fun
  | [d1, d2, d3] => { results := [.lit (.bool false)], args := [d1, d2, d3] }
  | _ => none }
def RowKeysWrongFalsely : Prop := rowKeysRow.holds Tryd.pinned (OpenSpec.ofChange rowKeysWrong)

/- THE SECOND FORM. 'bulk': how many values and letters a reading holds, each counted each time it is reached (what is shared counts as often as it is met; a slice's spare places count too). A statement '..UptoSaid' is the law's where the arguments, and the package variables that the reading takes, are together of bulk at most 1048576: NARROWER than '..Said'. Prove '..Said' where nothing that the law and all that it calls make is longer than what came in: it says more and counts as full. Else prove '..UptoSaid'. A law counts once. -/
mutual
def uptoBulk {H : Type} : DataW H → Nat
  | .lit (.string bytes) => bytes.length + 1
  | .lit _ => 1
  | .nil => 1
  | .ptr d => uptoBulk d + 1
  | .slice elems spare => uptoBulkAll elems + uptoBulkAll spare + 1
  | .agg parts => uptoBulkAll parts + 1
  | .iface _ d => uptoBulk d + 1
  | .map entries => uptoBulkEntries entries + 1
  | .held _ => 1
def uptoBulkAll {H : Type} : List (DataW H) → Nat
  | [] => 0
  | d :: r => uptoBulk d + uptoBulkAll r
def uptoBulkEntries {H : Type} : List (Lit × DataW H) → Nat
  | [] => 0
  | x :: r => uptoBulkEntry x + uptoBulkEntries r
def uptoBulkEntry {H : Type} : Lit × DataW H → Nat
  | (.string bytes, d) => bytes.length + uptoBulk d + 1
  | (_, d) => uptoBulk d + 1
 end
def uptoSmall : (H : Type) → List (DataW H) → Bool := fun _ ds => decide (uptoBulkAll ds ≤ 1048576)
def OpenSpec.upto (s : _root_.Go.ChangeSpec) : _root_.Go.OpenSpec := { _root_.Go.OpenSpec.ofChange s with cond := some uptoSmall }

/-- 'vellumlaw02.CodeEncodes', WHERE WHAT IT READS IS OF BULK AT MOST 1048576: true; the input reads as it did. -/
def codeEncodesUptoRow : OpenClaim := { program := "ytpiifdbicibelaadoor", sum := "f7029a1c73f91c57f98880870038c341d2792eafc984f0387a30924a6f2c83e2", func := "vellum/vellumlaw02.CodeEncodes", spec := "codeEncodes", inPlace := ["math.Float64bits", "math.Float64frombits", "internal/bytealg.CountString", "internal/bytealg.IndexByteString", "internal/bytealg.IndexString", "internal/abi.NoEscape", "internal/bytealg.MakeNoZero"], named := ["unicode/utf8.first", "unicode/utf8.acceptRanges", "internal/bytealg.MaxLen"], apart := false, laid := [("unicode/utf8.acceptRanges", laid_unicode_utf8_acceptRanges), ("unicode/utf8.first", laid_unicode_utf8_first)], narrowed := true }
def CodeEncodesUptoSaid : Prop := codeEncodesUptoRow.holds Tryd.pinned (OpenSpec.upto codeEncodesSpec)

/-- 'vellumlaw02.CodeOrders', WHERE WHAT IT READS IS OF BULK AT MOST 1048576: true; the input reads as it did. -/
def codeOrdersUptoRow : OpenClaim := { program := "ytpiifdbicibelaadoor", sum := "f7029a1c73f91c57f98880870038c341d2792eafc984f0387a30924a6f2c83e2", func := "vellum/vellumlaw02.CodeOrders", spec := "codeOrders", inPlace := ["math.Float64bits", "math.Float64frombits", "internal/bytealg.CountString", "internal/bytealg.IndexByteString", "internal/bytealg.IndexString", "internal/abi.NoEscape", "internal/bytealg.MakeNoZero"], named := ["unicode/utf8.first", "unicode/utf8.acceptRanges", "internal/bytealg.MaxLen"], apart := false, laid := [("unicode/utf8.acceptRanges", laid_unicode_utf8_acceptRanges), ("unicode/utf8.first", laid_unicode_utf8_first)], narrowed := true }
def CodeOrdersUptoSaid : Prop := codeOrdersUptoRow.holds Tryd.pinned (OpenSpec.upto codeOrdersSpec)

/-- 'vellumlaw02.CodeMeets', WHERE WHAT IT READS IS OF BULK AT MOST 1048576: true; the input reads as it did. -/
def codeMeetsUptoRow : OpenClaim := { program := "ytpiifdbicibelaadoor", sum := "f7029a1c73f91c57f98880870038c341d2792eafc984f0387a30924a6f2c83e2", func := "vellum/vellumlaw02.CodeMeets", spec := "codeMeets", inPlace := ["math.Float64bits", "math.Float64frombits", "internal/bytealg.CountString", "internal/bytealg.IndexByteString", "internal/bytealg.IndexString", "internal/abi.NoEscape", "internal/bytealg.MakeNoZero"], named := ["unicode/utf8.first", "unicode/utf8.acceptRanges", "internal/bytealg.MaxLen"], apart := false, laid := [("unicode/utf8.acceptRanges", laid_unicode_utf8_acceptRanges), ("unicode/utf8.first", laid_unicode_utf8_first)], narrowed := true }
def CodeMeetsUptoSaid : Prop := codeMeetsUptoRow.holds Tryd.pinned (OpenSpec.upto codeMeetsSpec)

/-- 'vellumlaw02.CodeRanges', WHERE WHAT IT READS IS OF BULK AT MOST 1048576: true; the input reads as it did. -/
def codeRangesUptoRow : OpenClaim := { program := "ytpiifdbicibelaadoor", sum := "f7029a1c73f91c57f98880870038c341d2792eafc984f0387a30924a6f2c83e2", func := "vellum/vellumlaw02.CodeRanges", spec := "codeRanges", inPlace := ["math.Float64bits", "math.Float64frombits", "internal/bytealg.CountString", "internal/bytealg.IndexByteString", "internal/bytealg.IndexString", "internal/abi.NoEscape", "internal/bytealg.MakeNoZero"], named := ["unicode/utf8.first", "unicode/utf8.acceptRanges", "internal/bytealg.MaxLen"], apart := false, laid := [("unicode/utf8.acceptRanges", laid_unicode_utf8_acceptRanges), ("unicode/utf8.first", laid_unicode_utf8_first)], narrowed := true }
def CodeRangesUptoSaid : Prop := codeRangesUptoRow.holds Tryd.pinned (OpenSpec.upto codeRangesSpec)

/-- 'vellumlaw02.CodeBegins', WHERE WHAT IT READS IS OF BULK AT MOST 1048576: true; the input reads as it did. -/
def codeBeginsUptoRow : OpenClaim := { program := "ytpiifdbicibelaadoor", sum := "f7029a1c73f91c57f98880870038c341d2792eafc984f0387a30924a6f2c83e2", func := "vellum/vellumlaw02.CodeBegins", spec := "codeBegins", inPlace := ["math.Float64bits", "math.Float64frombits", "internal/bytealg.CountString", "internal/bytealg.IndexByteString", "internal/bytealg.IndexString", "internal/abi.NoEscape", "internal/bytealg.MakeNoZero"], named := ["unicode/utf8.first", "unicode/utf8.acceptRanges", "internal/bytealg.MaxLen"], apart := false, laid := [("unicode/utf8.acceptRanges", laid_unicode_utf8_acceptRanges), ("unicode/utf8.first", laid_unicode_utf8_first)], narrowed := true }
def CodeBeginsUptoSaid : Prop := codeBeginsUptoRow.holds Tryd.pinned (OpenSpec.upto codeBeginsSpec)

/-- 'vellumlaw02.CodeDecodes', WHERE WHAT IT READS IS OF BULK AT MOST 1048576: true; the input reads as it did. -/
def codeDecodesUptoRow : OpenClaim := { program := "ytpiifdbicibelaadoor", sum := "f7029a1c73f91c57f98880870038c341d2792eafc984f0387a30924a6f2c83e2", func := "vellum/vellumlaw02.CodeDecodes", spec := "codeDecodes", inPlace := ["math.Float64frombits", "math.Float64bits", "internal/abi.NoEscape", "internal/bytealg.CountString", "internal/bytealg.IndexByteString", "internal/bytealg.IndexString", "internal/bytealg.MakeNoZero"], named := ["unicode/utf8.first", "unicode/utf8.acceptRanges", "internal/bytealg.MaxLen"], apart := false, laid := [("unicode/utf8.acceptRanges", laid_unicode_utf8_acceptRanges), ("unicode/utf8.first", laid_unicode_utf8_first)], narrowed := true }
def CodeDecodesUptoSaid : Prop := codeDecodesUptoRow.holds Tryd.pinned (OpenSpec.upto codeDecodesSpec)

/-- 'vellumlaw02.CodeBack', WHERE WHAT IT READS IS OF BULK AT MOST 1048576: true; the input reads as it did. -/
def codeBackUptoRow : OpenClaim := { program := "ytpiifdbicibelaadoor", sum := "f7029a1c73f91c57f98880870038c341d2792eafc984f0387a30924a6f2c83e2", func := "vellum/vellumlaw02.CodeBack", spec := "codeBack", inPlace := ["math.Float64bits", "math.Float64frombits", "internal/bytealg.CountString", "internal/bytealg.IndexByteString", "internal/bytealg.IndexString", "internal/abi.NoEscape", "internal/bytealg.MakeNoZero"], named := ["unicode/utf8.first", "unicode/utf8.acceptRanges", "internal/bytealg.MaxLen"], apart := false, laid := [("unicode/utf8.acceptRanges", laid_unicode_utf8_acceptRanges), ("unicode/utf8.first", laid_unicode_utf8_first)], narrowed := true }
def CodeBackUptoSaid : Prop := codeBackUptoRow.holds Tryd.pinned (OpenSpec.upto codeBackSpec)

/-- 'vellumlaw02.CodeUnites', WHERE WHAT IT READS IS OF BULK AT MOST 1048576: true; the input reads as it did. -/
def codeUnitesUptoRow : OpenClaim := { program := "ytpiifdbicibelaadoor", sum := "f7029a1c73f91c57f98880870038c341d2792eafc984f0387a30924a6f2c83e2", func := "vellum/vellumlaw02.CodeUnites", spec := "codeUnites", inPlace := ["internal/bytealg.abigen_runtime_cmpstring", "math.Float64bits", "math.Float64frombits", "internal/bytealg.CountString", "internal/bytealg.IndexByteString", "internal/bytealg.IndexString", "internal/abi.NoEscape", "internal/bytealg.MakeNoZero"], unfollowed := true, recurses := true, named := ["unicode/utf8.first", "unicode/utf8.acceptRanges", "internal/bytealg.MaxLen"], apart := false, laid := [("unicode/utf8.acceptRanges", laid_unicode_utf8_acceptRanges), ("unicode/utf8.first", laid_unicode_utf8_first)], narrowed := true }
def CodeUnitesUptoSaid : Prop := codeUnitesUptoRow.holds Tryd.pinned (OpenSpec.upto codeUnitesSpec)

/-- 'vellumlaw02.CodeWhole', WHERE WHAT IT READS IS OF BULK AT MOST 1048576: true; the input reads as it did. -/
def codeWholeUptoRow : OpenClaim := { program := "ytpiifdbicibelaadoor", sum := "f7029a1c73f91c57f98880870038c341d2792eafc984f0387a30924a6f2c83e2", func := "vellum/vellumlaw02.CodeWhole", spec := "codeWhole", inPlace := ["internal/bytealg.abigen_runtime_cmpstring", "math.Float64bits", "math.Float64frombits", "internal/bytealg.CountString", "internal/bytealg.IndexByteString", "internal/bytealg.IndexString", "internal/abi.NoEscape", "internal/bytealg.MakeNoZero"], unfollowed := true, recurses := true, named := ["unicode/utf8.first", "unicode/utf8.acceptRanges", "internal/bytealg.MaxLen"], apart := false, laid := [("unicode/utf8.acceptRanges", laid_unicode_utf8_acceptRanges), ("unicode/utf8.first", laid_unicode_utf8_first)], narrowed := true }
def CodeWholeUptoSaid : Prop := codeWholeUptoRow.holds Tryd.pinned (OpenSpec.upto codeWholeSpec)

/-- 'vellumlaw02.CodeOwn', WHERE WHAT IT READS IS OF BULK AT MOST 1048576: true; the input reads as it did. -/
def codeOwnUptoRow : OpenClaim := { program := "ytpiifdbicibelaadoor", sum := "f7029a1c73f91c57f98880870038c341d2792eafc984f0387a30924a6f2c83e2", func := "vellum/vellumlaw02.CodeOwn", spec := "codeOwn", inPlace := ["math.Float64bits", "math.Float64frombits", "internal/bytealg.CountString", "internal/bytealg.IndexByteString", "internal/bytealg.IndexString", "internal/abi.NoEscape", "internal/bytealg.MakeNoZero", "internal/bytealg.abigen_runtime_cmpstring"], unfollowed := true, recurses := true, named := ["unicode/utf8.first", "unicode/utf8.acceptRanges", "internal/bytealg.MaxLen"], apart := false, laid := [("unicode/utf8.acceptRanges", laid_unicode_utf8_acceptRanges), ("unicode/utf8.first", laid_unicode_utf8_first)], narrowed := true }
def CodeOwnUptoSaid : Prop := codeOwnUptoRow.holds Tryd.pinned (OpenSpec.upto codeOwnSpec)

/-- 'vellumlaw04.RowEncodes', WHERE WHAT IT READS IS OF BULK AT MOST 1048576: true; the input reads as it did. -/
def rowEncodesUptoRow : OpenClaim := { program := "ytpiifdbicibelaadoor", sum := "f7029a1c73f91c57f98880870038c341d2792eafc984f0387a30924a6f2c83e2", func := "vellum/vellumlaw04.RowEncodes", spec := "rowEncodes", inPlace := ["internal/bytealg.IndexByteString", "internal/bytealg.IndexString", "math.Float64bits"], unfollowed := true, recurses := true, named := ["internal/bytealg.MaxLen", "unicode/utf8.first", "unicode/utf8.acceptRanges"], apart := false, laid := [("unicode/utf8.acceptRanges", laid_unicode_utf8_acceptRanges), ("unicode/utf8.first", laid_unicode_utf8_first)], narrowed := true }
def RowEncodesUptoSaid : Prop := rowEncodesUptoRow.holds Tryd.pinned (OpenSpec.upto rowEncodesSpec)

/-- 'vellumlaw04.RowChanges', WHERE WHAT IT READS IS OF BULK AT MOST 1048576: true; the input reads as it did. -/
def rowChangesUptoRow : OpenClaim := { program := "ytpiifdbicibelaadoor", sum := "f7029a1c73f91c57f98880870038c341d2792eafc984f0387a30924a6f2c83e2", func := "vellum/vellumlaw04.RowChanges", spec := "rowChanges", inPlace := ["internal/bytealg.IndexByteString", "internal/bytealg.IndexString", "math.Float64bits"], unfollowed := true, recurses := true, named := ["internal/bytealg.MaxLen", "unicode/utf8.first", "unicode/utf8.acceptRanges"], apart := false, laid := [("unicode/utf8.acceptRanges", laid_unicode_utf8_acceptRanges), ("unicode/utf8.first", laid_unicode_utf8_first)], narrowed := true }
def RowChangesUptoSaid : Prop := rowChangesUptoRow.holds Tryd.pinned (OpenSpec.upto rowChangesSpec)

/-- 'vellumlaw04.RowDecodes', WHERE WHAT IT READS IS OF BULK AT MOST 1048576: true; the input reads as it did. -/
def rowDecodesUptoRow : OpenClaim := { program := "ytpiifdbicibelaadoor", sum := "f7029a1c73f91c57f98880870038c341d2792eafc984f0387a30924a6f2c83e2", func := "vellum/vellumlaw04.RowDecodes", spec := "rowDecodes", inPlace := ["internal/bytealg.IndexByteString", "internal/bytealg.IndexString", "math.Float64bits", "math.Float64frombits"], unfollowed := true, recurses := true, named := ["internal/bytealg.MaxLen", "unicode/utf8.first", "unicode/utf8.acceptRanges"], apart := false, laid := [("unicode/utf8.acceptRanges", laid_unicode_utf8_acceptRanges), ("unicode/utf8.first", laid_unicode_utf8_first)], narrowed := true }
def RowDecodesUptoSaid : Prop := rowDecodesUptoRow.holds Tryd.pinned (OpenSpec.upto rowDecodesSpec)

/-- 'vellumlaw04.RowBack', WHERE WHAT IT READS IS OF BULK AT MOST 1048576: true; the input reads as it did. -/
def rowBackUptoRow : OpenClaim := { program := "ytpiifdbicibelaadoor", sum := "f7029a1c73f91c57f98880870038c341d2792eafc984f0387a30924a6f2c83e2", func := "vellum/vellumlaw04.RowBack", spec := "rowBack", inPlace := ["internal/bytealg.IndexByteString", "internal/bytealg.IndexString", "math.Float64bits", "math.Float64frombits"], unfollowed := true, recurses := true, named := ["internal/bytealg.MaxLen", "unicode/utf8.first", "unicode/utf8.acceptRanges"], apart := false, laid := [("unicode/utf8.acceptRanges", laid_unicode_utf8_acceptRanges), ("unicode/utf8.first", laid_unicode_utf8_first)], narrowed := true }
def RowBackUptoSaid : Prop := rowBackUptoRow.holds Tryd.pinned (OpenSpec.upto rowBackSpec)

/-- 'vellumlaw04.RowApplies', WHERE WHAT IT READS IS OF BULK AT MOST 1048576: true; the input reads as it did. -/
def rowAppliesUptoRow : OpenClaim := { program := "ytpiifdbicibelaadoor", sum := "f7029a1c73f91c57f98880870038c341d2792eafc984f0387a30924a6f2c83e2", func := "vellum/vellumlaw04.RowApplies", spec := "rowApplies", inPlace := ["internal/bytealg.IndexByteString", "internal/bytealg.IndexString", "math.Float64bits", "math.Float64frombits"], unfollowed := true, recurses := true, named := ["internal/bytealg.MaxLen", "unicode/utf8.first", "unicode/utf8.acceptRanges"], apart := false, laid := [("unicode/utf8.acceptRanges", laid_unicode_utf8_acceptRanges), ("unicode/utf8.first", laid_unicode_utf8_first)], narrowed := true }
def RowAppliesUptoSaid : Prop := rowAppliesUptoRow.holds Tryd.pinned (OpenSpec.upto rowAppliesSpec)

/-- 'vellumlaw04.RowOwn', WHERE WHAT IT READS IS OF BULK AT MOST 1048576: true; the input reads as it did. -/
def rowOwnUptoRow : OpenClaim := { program := "ytpiifdbicibelaadoor", sum := "f7029a1c73f91c57f98880870038c341d2792eafc984f0387a30924a6f2c83e2", func := "vellum/vellumlaw04.RowOwn", spec := "rowOwn", inPlace := ["internal/bytealg.IndexByteString", "internal/bytealg.IndexString", "math.Float64bits", "math.Float64frombits"], unfollowed := true, recurses := true, named := ["internal/bytealg.MaxLen", "unicode/utf8.first", "unicode/utf8.acceptRanges"], apart := false, laid := [("unicode/utf8.acceptRanges", laid_unicode_utf8_acceptRanges), ("unicode/utf8.first", laid_unicode_utf8_first)], narrowed := true }
def RowOwnUptoSaid : Prop := rowOwnUptoRow.holds Tryd.pinned (OpenSpec.upto rowOwnSpec)

/-- 'vellumlaw04.RowTurns', WHERE WHAT IT READS IS OF BULK AT MOST 1048576: true; the input reads as it did. -/
def rowTurnsUptoRow : OpenClaim := { program := "ytpiifdbicibelaadoor", sum := "f7029a1c73f91c57f98880870038c341d2792eafc984f0387a30924a6f2c83e2", func := "vellum/vellumlaw04.RowTurns", spec := "rowTurns", inPlace := ["internal/bytealg.IndexByteString", "internal/bytealg.IndexString", "math.Float64bits", "math.Float64frombits"], unfollowed := true, recurses := true, named := ["internal/bytealg.MaxLen", "unicode/utf8.first", "unicode/utf8.acceptRanges"], apart := false, laid := [("unicode/utf8.acceptRanges", laid_unicode_utf8_acceptRanges), ("unicode/utf8.first", laid_unicode_utf8_first)], narrowed := true }
def RowTurnsUptoSaid : Prop := rowTurnsUptoRow.holds Tryd.pinned (OpenSpec.upto rowTurnsSpec)

/-- 'vellumlaw04.RowKeys', WHERE WHAT IT READS IS OF BULK AT MOST 1048576: true; the input reads as it did. -/
def rowKeysUptoRow : OpenClaim := { program := "ytpiifdbicibelaadoor", sum := "f7029a1c73f91c57f98880870038c341d2792eafc984f0387a30924a6f2c83e2", func := "vellum/vellumlaw04.RowKeys", spec := "rowKeys", inPlace := ["internal/bytealg.IndexByteString", "internal/bytealg.IndexString", "math.Float64bits", "math.Float64frombits", "internal/bytealg.CountString", "internal/abi.NoEscape", "internal/bytealg.MakeNoZero"], unfollowed := true, recurses := true, named := ["internal/bytealg.MaxLen", "unicode/utf8.first", "unicode/utf8.acceptRanges"], apart := false, laid := [("unicode/utf8.acceptRanges", laid_unicode_utf8_acceptRanges), ("unicode/utf8.first", laid_unicode_utf8_first)], narrowed := true }
def RowKeysUptoSaid : Prop := rowKeysUptoRow.holds Tryd.pinned (OpenSpec.upto rowKeysSpec)

end Rows
end Go.Proofs.YtpiifdbicibelaaDoor
