/-
  NARROWER THAN 'FOR EVERY INPUT', by the rows' own cells (each row's printed sentence says how): CrossReads: loops, laid.
  DERIVED. THE GIVEN ROWS OF THIS SEAT. 1 by the template 'for every input the law returns true; each argument reads behind the call as it read before'; 0 by the template 'total and deterministic' (their statements: YtkghomgfocpgeaaGreatDoorTotals.lean).
  GIVEN WITH THE SEED: the statements are not yours to turn. If you find one false, say at which input.
  Laid BY PROGRAM, IN A SANDBOX (cutbox-rows.mjs): the forced cells as the released guide's own fill.sh prints them over the translation ee1d42858214eccf… (all of the seat's roots in one cut). By AI agents, Wed Nov 11 2026. No macro, syntax, notation, axiom, sorry.
-/
import Derived.Test.YtkghomgfocpgeaaGreatDoorChecked
import GoSem.Claim
import GoSem.ClaimJoined
import GoSem.ClaimMapViews
import Derived.JoinedTies
import Derived.KernelRfl
namespace Go.Proofs.YtkghomgfocpgeaaGreatDoor
/- THE CELL 'sum', in the pinned program and in every row, IS THE sha256 OF THE DUMP (.gsa) THAT YtkghomgfocpgeaaGreatDoorProg.lean LOADS. Nothing in Lean hashes anything: it is a label: what it is worth is what the hold of that sum in a sandbox is worth. -/
noncomputable def Tryz.pinned : Pinned := { name := "ytkghomgfocpgeaagreatdoor", sum := "ee1d42858214eccf814e1404ed6b107a6099361f86d2572bdc318e2c09d37d23", checked := Tryz.checked }
namespace Rows
def none {H : Type} : Left H := { results := [], args := [] }

/- WHAT THE LISTED PACKAGE-LEVEL VARIABLES READ AS WHEN THE CALL BEGINS. Each datum BY PROGRAM (the guide's laid-datum.mjs) off the statement by which the dump's own 'gosem.cut.vars' lays the variable. In a bare row this is a premise. The card (YtkghomgfocpgeaaGreatDoorCards.lean) ties it to the program's text. -/
def laid_foliant_inflate_order {H : Type} : DataW H := .agg [.lit (.int .i64 16), .lit (.int .i64 17), .lit (.int .i64 18), .lit (.int .i64 0), .lit (.int .i64 8), .lit (.int .i64 7), .lit (.int .i64 9), .lit (.int .i64 6), .lit (.int .i64 10), .lit (.int .i64 5), .lit (.int .i64 11), .lit (.int .i64 4), .lit (.int .i64 12), .lit (.int .i64 3), .lit (.int .i64 13), .lit (.int .i64 2), .lit (.int .i64 14), .lit (.int .i64 1), .lit (.int .i64 15)]
def laid_foliant_inflate_repeats {H : Type} : DataW H := .map [(.int .i64 16, .agg [.lit (.int .i64 3), .lit (.int .i64 2)]), (.int .i64 17, .agg [.lit (.int .i64 3), .lit (.int .i64 3)]), (.int .i64 18, .agg [.lit (.int .i64 11), .lit (.int .i64 7)])]
def laid_foliant_ascii_powers {H : Type} : DataW H := .agg [.lit (.int .u64 52200625), .lit (.int .u64 614125), .lit (.int .u64 7225), .lit (.int .u64 85), .lit (.int .u64 1)]

/-- 'foliantlaw20.CrossReads': WHATEVER THE INPUT: true; the input reads as it did. -/
def crossReadsSpec : ChangeSpec := { name := "crossReads", fn := fun _ => fun
  | [d1, d2] => { results := [.lit (.bool true)], args := [d1, d2] }
  | _ => none }
def crossReadsRow : OpenClaim := { program := "ytkghomgfocpgeaagreatdoor", sum := "ee1d42858214eccf814e1404ed6b107a6099361f86d2572bdc318e2c09d37d23", func := "foliant/foliantlaw20.CrossReads", spec := "crossReads", inPlace := ["internal/bytealg.IndexByteString", "slices.overlaps[string]", "slices.overlaps[foliant/api.Object]", "internal/abi.NoEscape", "internal/bytealg.MakeNoZero"], unfollowed := true, recurses := true, named := ["foliant/ascii.powers", "foliant/inflate.order", "foliant/inflate.repeats"], loops := true, apart := false, laid := [("foliant/inflate.order", laid_foliant_inflate_order), ("foliant/inflate.repeats", laid_foliant_inflate_repeats), ("foliant/ascii.powers", laid_foliant_ascii_powers)] }
def CrossReadsSaid : Prop := crossReadsRow.holds Tryz.pinned (OpenSpec.ofChange crossReadsSpec)

/-- ITS FALSE NEIGHBOUR: 'it returns false'. Refute it at one input. -/
def crossReadsWrong : ChangeSpec := { name := "crossReads", fn := fun _ => fun
  | [d1, d2] => { results := [.lit (.bool false)], args := [d1, d2] }
  | _ => none }
def CrossReadsWrongFalsely : Prop := crossReadsRow.holds Tryz.pinned (OpenSpec.ofChange crossReadsWrong)

/- THE SECOND FORM. 'bulk': how many values and letters a reading holds, each counted each time it is reached (what is shared counts as often as it is met; a slice's spare places count too). A statement '..UptoSaid' is the law's where the arguments, and the package variables that the reading takes, are together of bulk at most 1048576: NARROWER than '..Said'. Prove '..Said' where nothing that the law and all that it calls make is longer than what came in: it says more and counts as full. Else prove '..UptoSaid'. A law counts once. -/
mutual
def uptoBulk {H : Type} : DataW H → Nat
  | .lit (.string bytes) => bytes.length + 1
  | .lit _ => 1
  | .nil => 1
  | .ptr d => uptoBulk d + 1
  | .slice elems spare => uptoBulkAll elems + uptoBulkAll spare + 1
  | .agg parts => uptoBulkAll parts + 1
  | .iface _ d => uptoBulk d + 1
  | .map entries => uptoBulkEntries entries + 1
  | .held _ => 1
def uptoBulkAll {H : Type} : List (DataW H) → Nat
  | [] => 0
  | d :: r => uptoBulk d + uptoBulkAll r
def uptoBulkEntries {H : Type} : List (Lit × DataW H) → Nat
  | [] => 0
  | x :: r => uptoBulkEntry x + uptoBulkEntries r
def uptoBulkEntry {H : Type} : Lit × DataW H → Nat
  | (.string bytes, d) => bytes.length + uptoBulk d + 1
  | (_, d) => uptoBulk d + 1
 end
def uptoSmall : (H : Type) → List (DataW H) → Bool := fun _ ds => decide (uptoBulkAll ds ≤ 1048576)
def OpenSpec.upto (s : _root_.Go.ChangeSpec) : _root_.Go.OpenSpec := { _root_.Go.OpenSpec.ofChange s with cond := some uptoSmall }

/-- 'foliantlaw20.CrossReads', WHERE WHAT IT READS IS OF BULK AT MOST 1048576: true; the input reads as it did. -/
def crossReadsUptoRow : OpenClaim := { program := "ytkghomgfocpgeaagreatdoor", sum := "ee1d42858214eccf814e1404ed6b107a6099361f86d2572bdc318e2c09d37d23", func := "foliant/foliantlaw20.CrossReads", spec := "crossReads", inPlace := ["internal/bytealg.IndexByteString", "slices.overlaps[string]", "slices.overlaps[foliant/api.Object]", "internal/abi.NoEscape", "internal/bytealg.MakeNoZero"], unfollowed := true, recurses := true, named := ["foliant/ascii.powers", "foliant/inflate.order", "foliant/inflate.repeats"], loops := true, apart := false, laid := [("foliant/inflate.order", laid_foliant_inflate_order), ("foliant/inflate.repeats", laid_foliant_inflate_repeats), ("foliant/ascii.powers", laid_foliant_ascii_powers)], narrowed := true }
def CrossReadsUptoSaid : Prop := crossReadsUptoRow.holds Tryz.pinned (OpenSpec.upto crossReadsSpec)

end Rows
end Go.Proofs.YtkghomgfocpgeaaGreatDoor
