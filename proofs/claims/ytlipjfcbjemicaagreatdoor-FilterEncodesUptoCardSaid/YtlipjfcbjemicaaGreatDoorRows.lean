/-
  NARROWER THAN 'FOR EVERY INPUT', by the rows' own cells (each row's printed sentence says how): FilterDecodes: loops, laid · FilterOne: laid · FilterEncodes: loops, laid · FilterMakes: loops, laid · CrossReads: loops, laid · CrossMakes: loops, laid · CrossBack: loops, laid · CrossWidths: laid.
  DERIVED. THE GIVEN ROWS OF THIS SEAT. 8 by the template 'for every input the law returns true; each argument reads behind the call as it read before'; 0 by the template 'total and deterministic' (their statements: YtlipjfcbjemicaaGreatDoorTotals.lean).
  GIVEN WITH THE SEED: the statements are not yours to turn. If you find one false, say at which input.
  Laid BY PROGRAM, IN A SANDBOX (cutbox-rows.mjs): the forced cells as the released guide's own fill.sh prints them over the translation 847d4c5227b65d6f… (all of the seat's roots in one cut). By AI agents, Wed Nov 11 2026. No macro, syntax, notation, axiom, sorry.
-/
import Derived.Test.YtlipjfcbjemicaaGreatDoorChecked
import GoSem.Claim
import GoSem.ClaimJoined
import GoSem.ClaimMapViews
import Derived.JoinedTies
import Derived.KernelRfl
namespace Go.Proofs.YtlipjfcbjemicaaGreatDoor
/- THE CELL 'sum', in the pinned program and in every row, IS THE sha256 OF THE DUMP (.gsa) THAT YtlipjfcbjemicaaGreatDoorProg.lean LOADS. Nothing in Lean hashes anything: it is a label: what it is worth is what the hold of that sum in a sandbox is worth. -/
noncomputable def Tryz.pinned : Pinned := { name := "ytlipjfcbjemicaagreatdoor", sum := "847d4c5227b65d6fc74748b775ad5dd21759dddc33726ee15d72418f1e960d1d", checked := Tryz.checked }
namespace Rows
def none {H : Type} : Left H := { results := [], args := [] }

/- WHAT THE LISTED PACKAGE-LEVEL VARIABLES READ AS WHEN THE CALL BEGINS. Each datum BY PROGRAM (the guide's laid-datum.mjs) off the statement by which the dump's own 'gosem.cut.vars' lays the variable. In a bare row this is a premise. The card (YtlipjfcbjemicaaGreatDoorCards.lean) ties it to the program's text. -/
def laid_foliant_inflate_order {H : Type} : DataW H := .agg [.lit (.int .i64 16), .lit (.int .i64 17), .lit (.int .i64 18), .lit (.int .i64 0), .lit (.int .i64 8), .lit (.int .i64 7), .lit (.int .i64 9), .lit (.int .i64 6), .lit (.int .i64 10), .lit (.int .i64 5), .lit (.int .i64 11), .lit (.int .i64 4), .lit (.int .i64 12), .lit (.int .i64 3), .lit (.int .i64 13), .lit (.int .i64 2), .lit (.int .i64 14), .lit (.int .i64 1), .lit (.int .i64 15)]
def laid_foliant_inflate_repeats {H : Type} : DataW H := .map [(.int .i64 16, .agg [.lit (.int .i64 3), .lit (.int .i64 2)]), (.int .i64 17, .agg [.lit (.int .i64 3), .lit (.int .i64 3)]), (.int .i64 18, .agg [.lit (.int .i64 11), .lit (.int .i64 7)])]
def laid_foliant_ascii_powers {H : Type} : DataW H := .agg [.lit (.int .u64 52200625), .lit (.int .u64 614125), .lit (.int .u64 7225), .lit (.int .u64 85), .lit (.int .u64 1)]

/-- 'foliantlaw16.FilterDecodes': WHATEVER THE INPUT: true; the input reads as it did. -/
def filterDecodesSpec : ChangeSpec := { name := "filterDecodes", fn := fun _ => fun
  | [d1, d2, d3, d4] => { results := [.lit (.bool true)], args := [d1, d2, d3, d4] }
  | _ => none }
def filterDecodesRow : OpenClaim := { program := "ytlipjfcbjemicaagreatdoor", sum := "847d4c5227b65d6fc74748b775ad5dd21759dddc33726ee15d72418f1e960d1d", func := "foliant/foliantlaw16.FilterDecodes", spec := "filterDecodes", inPlace := ["internal/bytealg.IndexByteString", "internal/abi.NoEscape", "internal/bytealg.MakeNoZero", "slices.overlaps[string]", "slices.overlaps[foliant/api.Object]"], unfollowed := true, recurses := true, named := ["foliant/ascii.powers", "foliant/inflate.order", "foliant/inflate.repeats"], loops := true, apart := false, laid := [("foliant/inflate.order", laid_foliant_inflate_order), ("foliant/inflate.repeats", laid_foliant_inflate_repeats), ("foliant/ascii.powers", laid_foliant_ascii_powers)] }
def FilterDecodesSaid : Prop := filterDecodesRow.holds Tryz.pinned (OpenSpec.ofChange filterDecodesSpec)

/-- ITS FALSE NEIGHBOUR: 'it returns false'. Refute it at one input. -/
def filterDecodesWrong : ChangeSpec := { name := "filterDecodes", fn := fun _ => fun
  | [d1, d2, d3, d4] => { results := [.lit (.bool false)], args := [d1, d2, d3, d4] }
  | _ => none }
def FilterDecodesWrongFalsely : Prop := filterDecodesRow.holds Tryz.pinned (OpenSpec.ofChange filterDecodesWrong)

/-- 'foliantlaw16.FilterOne': WHATEVER THE INPUT: true; the input reads as it did. -/
def filterOneSpec : ChangeSpec := { name := "filterOne", fn := fun _ => fun
  | [d1, d2, d3] => { results := [.lit (.bool true)], args := [d1, d2, d3] }
  | _ => none }
def filterOneRow : OpenClaim := { program := "ytlipjfcbjemicaagreatdoor", sum := "847d4c5227b65d6fc74748b775ad5dd21759dddc33726ee15d72418f1e960d1d", func := "foliant/foliantlaw16.FilterOne", spec := "filterOne", inPlace := ["internal/bytealg.IndexByteString", "internal/abi.NoEscape", "internal/bytealg.MakeNoZero", "slices.overlaps[string]", "slices.overlaps[foliant/api.Object]"], unfollowed := true, recurses := true, named := ["foliant/ascii.powers", "foliant/inflate.order", "foliant/inflate.repeats"], apart := false, laid := [("foliant/inflate.order", laid_foliant_inflate_order), ("foliant/inflate.repeats", laid_foliant_inflate_repeats), ("foliant/ascii.powers", laid_foliant_ascii_powers)] }
def FilterOneSaid : Prop := filterOneRow.holds Tryz.pinned (OpenSpec.ofChange filterOneSpec)

/-- ITS FALSE NEIGHBOUR: 'it returns false'. Refute it at one input. -/
def filterOneWrong : ChangeSpec := { name := "filterOne", fn := fun _ => fun
  | [d1, d2, d3] => { results := [.lit (.bool false)], args := [d1, d2, d3] }
  | _ => none }
def FilterOneWrongFalsely : Prop := filterOneRow.holds Tryz.pinned (OpenSpec.ofChange filterOneWrong)

/-- 'foliantlaw16.FilterEncodes': WHATEVER THE INPUT: true; the input reads as it did. -/
def filterEncodesSpec : ChangeSpec := { name := "filterEncodes", fn := fun _ => fun
  | [d1, d2] => { results := [.lit (.bool true)], args := [d1, d2] }
  | _ => none }
def filterEncodesRow : OpenClaim := { program := "ytlipjfcbjemicaagreatdoor", sum := "847d4c5227b65d6fc74748b775ad5dd21759dddc33726ee15d72418f1e960d1d", func := "foliant/foliantlaw16.FilterEncodes", spec := "filterEncodes", inPlace := ["internal/bytealg.IndexByteString", "internal/abi.NoEscape", "internal/bytealg.MakeNoZero", "slices.overlaps[string]", "slices.overlaps[foliant/api.Object]"], unfollowed := true, recurses := true, named := ["foliant/ascii.powers", "foliant/inflate.order", "foliant/inflate.repeats"], loops := true, apart := false, laid := [("foliant/inflate.order", laid_foliant_inflate_order), ("foliant/inflate.repeats", laid_foliant_inflate_repeats), ("foliant/ascii.powers", laid_foliant_ascii_powers)] }
def FilterEncodesSaid : Prop := filterEncodesRow.holds Tryz.pinned (OpenSpec.ofChange filterEncodesSpec)

/-- ITS FALSE NEIGHBOUR: 'it returns false'. Refute it at one input. -/
def filterEncodesWrong : ChangeSpec := { name := "filterEncodes", fn := fun _ => fun
  | [d1, d2] => { results := [.lit (.bool false)], args := [d1, d2] }
  | _ => none }
def FilterEncodesWrongFalsely : Prop := filterEncodesRow.holds Tryz.pinned (OpenSpec.ofChange filterEncodesWrong)

/-- 'foliantlaw16.FilterMakes': WHATEVER THE INPUT: true; the input reads as it did. -/
def filterMakesSpec : ChangeSpec := { name := "filterMakes", fn := fun _ => fun
  | [d1, d2, d3] => { results := [.lit (.bool true)], args := [d1, d2, d3] }
  | _ => none }
def filterMakesRow : OpenClaim := { program := "ytlipjfcbjemicaagreatdoor", sum := "847d4c5227b65d6fc74748b775ad5dd21759dddc33726ee15d72418f1e960d1d", func := "foliant/foliantlaw16.FilterMakes", spec := "filterMakes", inPlace := ["internal/bytealg.IndexByteString", "internal/abi.NoEscape", "internal/bytealg.MakeNoZero", "slices.overlaps[string]", "slices.overlaps[foliant/api.Object]"], unfollowed := true, recurses := true, named := ["foliant/ascii.powers", "foliant/inflate.order", "foliant/inflate.repeats"], loops := true, apart := false, laid := [("foliant/inflate.order", laid_foliant_inflate_order), ("foliant/inflate.repeats", laid_foliant_inflate_repeats), ("foliant/ascii.powers", laid_foliant_ascii_powers)] }
def FilterMakesSaid : Prop := filterMakesRow.holds Tryz.pinned (OpenSpec.ofChange filterMakesSpec)

/-- ITS FALSE NEIGHBOUR: 'it returns false'. Refute it at one input. -/
def filterMakesWrong : ChangeSpec := { name := "filterMakes", fn := fun _ => fun
  | [d1, d2, d3] => { results := [.lit (.bool false)], args := [d1, d2, d3] }
  | _ => none }
def FilterMakesWrongFalsely : Prop := filterMakesRow.holds Tryz.pinned (OpenSpec.ofChange filterMakesWrong)

/-- 'foliantlaw20.CrossReads': WHATEVER THE INPUT: true; the input reads as it did. -/
def crossReadsSpec : ChangeSpec := { name := "crossReads", fn := fun _ => fun
  | [d1, d2] => { results := [.lit (.bool true)], args := [d1, d2] }
  | _ => none }
def crossReadsRow : OpenClaim := { program := "ytlipjfcbjemicaagreatdoor", sum := "847d4c5227b65d6fc74748b775ad5dd21759dddc33726ee15d72418f1e960d1d", func := "foliant/foliantlaw20.CrossReads", spec := "crossReads", inPlace := ["internal/bytealg.IndexByteString", "slices.overlaps[string]", "slices.overlaps[foliant/api.Object]", "internal/abi.NoEscape", "internal/bytealg.MakeNoZero"], unfollowed := true, recurses := true, named := ["foliant/ascii.powers", "foliant/inflate.order", "foliant/inflate.repeats"], loops := true, apart := false, laid := [("foliant/inflate.order", laid_foliant_inflate_order), ("foliant/inflate.repeats", laid_foliant_inflate_repeats), ("foliant/ascii.powers", laid_foliant_ascii_powers)] }
def CrossReadsSaid : Prop := crossReadsRow.holds Tryz.pinned (OpenSpec.ofChange crossReadsSpec)

/-- ITS FALSE NEIGHBOUR: 'it returns false'. Refute it at one input. -/
def crossReadsWrong : ChangeSpec := { name := "crossReads", fn := fun _ => fun
  | [d1, d2] => { results := [.lit (.bool false)], args := [d1, d2] }
  | _ => none }
def CrossReadsWrongFalsely : Prop := crossReadsRow.holds Tryz.pinned (OpenSpec.ofChange crossReadsWrong)

/-- 'foliantlaw20.CrossMakes': WHATEVER THE INPUT: true; the input reads as it did. -/
def crossMakesSpec : ChangeSpec := { name := "crossMakes", fn := fun _ => fun
  | [d] => { results := [.lit (.bool true)], args := [d] }
  | _ => none }
def crossMakesRow : OpenClaim := { program := "ytlipjfcbjemicaagreatdoor", sum := "847d4c5227b65d6fc74748b775ad5dd21759dddc33726ee15d72418f1e960d1d", func := "foliant/foliantlaw20.CrossMakes", spec := "crossMakes", inPlace := ["internal/bytealg.IndexByteString", "slices.overlaps[string]", "slices.overlaps[foliant/api.Object]", "internal/abi.NoEscape", "internal/bytealg.MakeNoZero"], unfollowed := true, recurses := true, named := ["foliant/ascii.powers", "foliant/inflate.order", "foliant/inflate.repeats"], loops := true, apart := false, laid := [("foliant/inflate.order", laid_foliant_inflate_order), ("foliant/inflate.repeats", laid_foliant_inflate_repeats), ("foliant/ascii.powers", laid_foliant_ascii_powers)] }
def CrossMakesSaid : Prop := crossMakesRow.holds Tryz.pinned (OpenSpec.ofChange crossMakesSpec)

/-- ITS FALSE NEIGHBOUR: 'it returns false'. Refute it at one input. -/
def crossMakesWrong : ChangeSpec := { name := "crossMakes", fn := fun _ => fun
  | [d] => { results := [.lit (.bool false)], args := [d] }
  | _ => none }
def CrossMakesWrongFalsely : Prop := crossMakesRow.holds Tryz.pinned (OpenSpec.ofChange crossMakesWrong)

/-- 'foliantlaw20.CrossBack': WHATEVER THE INPUT: true; the input reads as it did. -/
def crossBackSpec : ChangeSpec := { name := "crossBack", fn := fun _ => fun
  | [d1, d2] => { results := [.lit (.bool true)], args := [d1, d2] }
  | _ => none }
def crossBackRow : OpenClaim := { program := "ytlipjfcbjemicaagreatdoor", sum := "847d4c5227b65d6fc74748b775ad5dd21759dddc33726ee15d72418f1e960d1d", func := "foliant/foliantlaw20.CrossBack", spec := "crossBack", inPlace := ["internal/bytealg.IndexByteString", "slices.overlaps[string]", "slices.overlaps[foliant/api.Object]", "internal/abi.NoEscape", "internal/bytealg.MakeNoZero"], unfollowed := true, recurses := true, named := ["foliant/ascii.powers", "foliant/inflate.order", "foliant/inflate.repeats"], loops := true, apart := false, laid := [("foliant/inflate.order", laid_foliant_inflate_order), ("foliant/inflate.repeats", laid_foliant_inflate_repeats), ("foliant/ascii.powers", laid_foliant_ascii_powers)] }
def CrossBackSaid : Prop := crossBackRow.holds Tryz.pinned (OpenSpec.ofChange crossBackSpec)

/-- ITS FALSE NEIGHBOUR: 'it returns false'. Refute it at one input. -/
def crossBackWrong : ChangeSpec := { name := "crossBack", fn := fun _ => fun
  | [d1, d2] => { results := [.lit (.bool false)], args := [d1, d2] }
  | _ => none }
def CrossBackWrongFalsely : Prop := crossBackRow.holds Tryz.pinned (OpenSpec.ofChange crossBackWrong)

/-- 'foliantlaw20.CrossWidths': WHATEVER THE INPUT: true; the input reads as it did. -/
def crossWidthsSpec : ChangeSpec := { name := "crossWidths", fn := fun _ => fun
  | [d] => { results := [.lit (.bool true)], args := [d] }
  | _ => none }
def crossWidthsRow : OpenClaim := { program := "ytlipjfcbjemicaagreatdoor", sum := "847d4c5227b65d6fc74748b775ad5dd21759dddc33726ee15d72418f1e960d1d", func := "foliant/foliantlaw20.CrossWidths", spec := "crossWidths", inPlace := ["internal/bytealg.IndexByteString", "slices.overlaps[string]", "slices.overlaps[foliant/api.Object]", "internal/abi.NoEscape", "internal/bytealg.MakeNoZero"], unfollowed := true, recurses := true, named := ["foliant/ascii.powers", "foliant/inflate.order", "foliant/inflate.repeats"], apart := false, laid := [("foliant/inflate.order", laid_foliant_inflate_order), ("foliant/inflate.repeats", laid_foliant_inflate_repeats), ("foliant/ascii.powers", laid_foliant_ascii_powers)] }
def CrossWidthsSaid : Prop := crossWidthsRow.holds Tryz.pinned (OpenSpec.ofChange crossWidthsSpec)

/-- ITS FALSE NEIGHBOUR: 'it returns false'. Refute it at one input. -/
def crossWidthsWrong : ChangeSpec := { name := "crossWidths", fn := fun _ => fun
  | [d] => { results := [.lit (.bool false)], args := [d] }
  | _ => none }
def CrossWidthsWrongFalsely : Prop := crossWidthsRow.holds Tryz.pinned (OpenSpec.ofChange crossWidthsWrong)

/- THE SECOND FORM. 'bulk': how many values and letters a reading holds, each counted each time it is reached (what is shared counts as often as it is met; a slice's spare places count too). A statement '..UptoSaid' is the law's where the arguments, and the package variables that the reading takes, are together of bulk at most 1048576: NARROWER than '..Said'. Prove '..Said' where nothing that the law and all that it calls make is longer than what came in: it says more and counts as full. Else prove '..UptoSaid'. A law counts once. -/
mutual
def uptoBulk {H : Type} : DataW H → Nat
  | .lit (.string bytes) => bytes.length + 1
  | .lit _ => 1
  | .nil => 1
  | .ptr d => uptoBulk d + 1
  | .slice elems spare => uptoBulkAll elems + uptoBulkAll spare + 1
  | .agg parts => uptoBulkAll parts + 1
  | .iface _ d => uptoBulk d + 1
  | .map entries => uptoBulkEntries entries + 1
  | .held _ => 1
def uptoBulkAll {H : Type} : List (DataW H) → Nat
  | [] => 0
  | d :: r => uptoBulk d + uptoBulkAll r
def uptoBulkEntries {H : Type} : List (Lit × DataW H) → Nat
  | [] => 0
  | x :: r => uptoBulkEntry x + uptoBulkEntries r
def uptoBulkEntry {H : Type} : Lit × DataW H → Nat
  | (.string bytes, d) => bytes.length + uptoBulk d + 1
  | (_, d) => uptoBulk d + 1
 end
def uptoSmall : (H : Type) → List (DataW H) → Bool := fun _ ds => decide (uptoBulkAll ds ≤ 1048576)
def OpenSpec.upto (s : _root_.Go.ChangeSpec) : _root_.Go.OpenSpec := { _root_.Go.OpenSpec.ofChange s with cond := some uptoSmall }

/-- 'foliantlaw16.FilterDecodes', WHERE WHAT IT READS IS OF BULK AT MOST 1048576: true; the input reads as it did. -/
def filterDecodesUptoRow : OpenClaim := { program := "ytlipjfcbjemicaagreatdoor", sum := "847d4c5227b65d6fc74748b775ad5dd21759dddc33726ee15d72418f1e960d1d", func := "foliant/foliantlaw16.FilterDecodes", spec := "filterDecodes", inPlace := ["internal/bytealg.IndexByteString", "internal/abi.NoEscape", "internal/bytealg.MakeNoZero", "slices.overlaps[string]", "slices.overlaps[foliant/api.Object]"], unfollowed := true, recurses := true, named := ["foliant/ascii.powers", "foliant/inflate.order", "foliant/inflate.repeats"], loops := true, apart := false, laid := [("foliant/inflate.order", laid_foliant_inflate_order), ("foliant/inflate.repeats", laid_foliant_inflate_repeats), ("foliant/ascii.powers", laid_foliant_ascii_powers)], narrowed := true }
def FilterDecodesUptoSaid : Prop := filterDecodesUptoRow.holds Tryz.pinned (OpenSpec.upto filterDecodesSpec)

/-- 'foliantlaw16.FilterOne', WHERE WHAT IT READS IS OF BULK AT MOST 1048576: true; the input reads as it did. -/
def filterOneUptoRow : OpenClaim := { program := "ytlipjfcbjemicaagreatdoor", sum := "847d4c5227b65d6fc74748b775ad5dd21759dddc33726ee15d72418f1e960d1d", func := "foliant/foliantlaw16.FilterOne", spec := "filterOne", inPlace := ["internal/bytealg.IndexByteString", "internal/abi.NoEscape", "internal/bytealg.MakeNoZero", "slices.overlaps[string]", "slices.overlaps[foliant/api.Object]"], unfollowed := true, recurses := true, named := ["foliant/ascii.powers", "foliant/inflate.order", "foliant/inflate.repeats"], apart := false, laid := [("foliant/inflate.order", laid_foliant_inflate_order), ("foliant/inflate.repeats", laid_foliant_inflate_repeats), ("foliant/ascii.powers", laid_foliant_ascii_powers)], narrowed := true }
def FilterOneUptoSaid : Prop := filterOneUptoRow.holds Tryz.pinned (OpenSpec.upto filterOneSpec)

/-- 'foliantlaw16.FilterEncodes', WHERE WHAT IT READS IS OF BULK AT MOST 1048576: true; the input reads as it did. -/
def filterEncodesUptoRow : OpenClaim := { program := "ytlipjfcbjemicaagreatdoor", sum := "847d4c5227b65d6fc74748b775ad5dd21759dddc33726ee15d72418f1e960d1d", func := "foliant/foliantlaw16.FilterEncodes", spec := "filterEncodes", inPlace := ["internal/bytealg.IndexByteString", "internal/abi.NoEscape", "internal/bytealg.MakeNoZero", "slices.overlaps[string]", "slices.overlaps[foliant/api.Object]"], unfollowed := true, recurses := true, named := ["foliant/ascii.powers", "foliant/inflate.order", "foliant/inflate.repeats"], loops := true, apart := false, laid := [("foliant/inflate.order", laid_foliant_inflate_order), ("foliant/inflate.repeats", laid_foliant_inflate_repeats), ("foliant/ascii.powers", laid_foliant_ascii_powers)], narrowed := true }
def FilterEncodesUptoSaid : Prop := filterEncodesUptoRow.holds Tryz.pinned (OpenSpec.upto filterEncodesSpec)

/-- 'foliantlaw16.FilterMakes', WHERE WHAT IT READS IS OF BULK AT MOST 1048576: true; the input reads as it did. -/
def filterMakesUptoRow : OpenClaim := { program := "ytlipjfcbjemicaagreatdoor", sum := "847d4c5227b65d6fc74748b775ad5dd21759dddc33726ee15d72418f1e960d1d", func := "foliant/foliantlaw16.FilterMakes", spec := "filterMakes", inPlace := ["internal/bytealg.IndexByteString", "internal/abi.NoEscape", "internal/bytealg.MakeNoZero", "slices.overlaps[string]", "slices.overlaps[foliant/api.Object]"], unfollowed := true, recurses := true, named := ["foliant/ascii.powers", "foliant/inflate.order", "foliant/inflate.repeats"], loops := true, apart := false, laid := [("foliant/inflate.order", laid_foliant_inflate_order), ("foliant/inflate.repeats", laid_foliant_inflate_repeats), ("foliant/ascii.powers", laid_foliant_ascii_powers)], narrowed := true }
def FilterMakesUptoSaid : Prop := filterMakesUptoRow.holds Tryz.pinned (OpenSpec.upto filterMakesSpec)

/-- 'foliantlaw20.CrossReads', WHERE WHAT IT READS IS OF BULK AT MOST 1048576: true; the input reads as it did. -/
def crossReadsUptoRow : OpenClaim := { program := "ytlipjfcbjemicaagreatdoor", sum := "847d4c5227b65d6fc74748b775ad5dd21759dddc33726ee15d72418f1e960d1d", func := "foliant/foliantlaw20.CrossReads", spec := "crossReads", inPlace := ["internal/bytealg.IndexByteString", "slices.overlaps[string]", "slices.overlaps[foliant/api.Object]", "internal/abi.NoEscape", "internal/bytealg.MakeNoZero"], unfollowed := true, recurses := true, named := ["foliant/ascii.powers", "foliant/inflate.order", "foliant/inflate.repeats"], loops := true, apart := false, laid := [("foliant/inflate.order", laid_foliant_inflate_order), ("foliant/inflate.repeats", laid_foliant_inflate_repeats), ("foliant/ascii.powers", laid_foliant_ascii_powers)], narrowed := true }
def CrossReadsUptoSaid : Prop := crossReadsUptoRow.holds Tryz.pinned (OpenSpec.upto crossReadsSpec)

/-- 'foliantlaw20.CrossMakes', WHERE WHAT IT READS IS OF BULK AT MOST 1048576: true; the input reads as it did. -/
def crossMakesUptoRow : OpenClaim := { program := "ytlipjfcbjemicaagreatdoor", sum := "847d4c5227b65d6fc74748b775ad5dd21759dddc33726ee15d72418f1e960d1d", func := "foliant/foliantlaw20.CrossMakes", spec := "crossMakes", inPlace := ["internal/bytealg.IndexByteString", "slices.overlaps[string]", "slices.overlaps[foliant/api.Object]", "internal/abi.NoEscape", "internal/bytealg.MakeNoZero"], unfollowed := true, recurses := true, named := ["foliant/ascii.powers", "foliant/inflate.order", "foliant/inflate.repeats"], loops := true, apart := false, laid := [("foliant/inflate.order", laid_foliant_inflate_order), ("foliant/inflate.repeats", laid_foliant_inflate_repeats), ("foliant/ascii.powers", laid_foliant_ascii_powers)], narrowed := true }
def CrossMakesUptoSaid : Prop := crossMakesUptoRow.holds Tryz.pinned (OpenSpec.upto crossMakesSpec)

/-- 'foliantlaw20.CrossBack', WHERE WHAT IT READS IS OF BULK AT MOST 1048576: true; the input reads as it did. -/
def crossBackUptoRow : OpenClaim := { program := "ytlipjfcbjemicaagreatdoor", sum := "847d4c5227b65d6fc74748b775ad5dd21759dddc33726ee15d72418f1e960d1d", func := "foliant/foliantlaw20.CrossBack", spec := "crossBack", inPlace := ["internal/bytealg.IndexByteString", "slices.overlaps[string]", "slices.overlaps[foliant/api.Object]", "internal/abi.NoEscape", "internal/bytealg.MakeNoZero"], unfollowed := true, recurses := true, named := ["foliant/ascii.powers", "foliant/inflate.order", "foliant/inflate.repeats"], loops := true, apart := false, laid := [("foliant/inflate.order", laid_foliant_inflate_order), ("foliant/inflate.repeats", laid_foliant_inflate_repeats), ("foliant/ascii.powers", laid_foliant_ascii_powers)], narrowed := true }
def CrossBackUptoSaid : Prop := crossBackUptoRow.holds Tryz.pinned (OpenSpec.upto crossBackSpec)

/-- 'foliantlaw20.CrossWidths', WHERE WHAT IT READS IS OF BULK AT MOST 1048576: true; the input reads as it did. -/
def crossWidthsUptoRow : OpenClaim := { program := "ytlipjfcbjemicaagreatdoor", sum := "847d4c5227b65d6fc74748b775ad5dd21759dddc33726ee15d72418f1e960d1d", func := "foliant/foliantlaw20.CrossWidths", spec := "crossWidths", inPlace := ["internal/bytealg.IndexByteString", "slices.overlaps[string]", "slices.overlaps[foliant/api.Object]", "internal/abi.NoEscape", "internal/bytealg.MakeNoZero"], unfollowed := true, recurses := true, named := ["foliant/ascii.powers", "foliant/inflate.order", "foliant/inflate.repeats"], apart := false, laid := [("foliant/inflate.order", laid_foliant_inflate_order), ("foliant/inflate.repeats", laid_foliant_inflate_repeats), ("foliant/ascii.powers", laid_foliant_ascii_powers)], narrowed := true }
def CrossWidthsUptoSaid : Prop := crossWidthsUptoRow.holds Tryz.pinned (OpenSpec.upto crossWidthsSpec)

end Rows
end Go.Proofs.YtlipjfcbjemicaaGreatDoor
