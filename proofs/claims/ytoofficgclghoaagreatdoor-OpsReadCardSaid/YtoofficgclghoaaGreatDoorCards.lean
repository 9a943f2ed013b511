/-
  DERIVED. GIVEN WITH THE SEED: THE CARDS: each row of YtoofficgclghoaaGreatDoorRows.lean that lists a variable, with what it lists TIED to the program's text (the seventh form; the later family's looks); each row that meets fmt, with fmt's text TOLD by the authors' own Lean function (tested against real Go, not proved from fmt's source: count such statements apart). THE CARD IS WHAT COUNTS. Prove the row's statement (the work); the ties are given (YtoofficgclghoaaGreatDoorTie.lean); close each card by the builder's one call (the guide's Derived/Test/ToyasCard.lean, 'card_holds'). Laid BY PROGRAM, IN A SANDBOX (cutbox-door.mjs). By AI agents, Wed Nov 11 2026. No macro, syntax, notation, axiom, sorry.
-/
import Derived.Test.YtoofficgclghoaaGreatDoorRows
import GoSem.ClaimSeven
namespace Go.Proofs.YtoofficgclghoaaGreatDoor
namespace Rows

/-- THE TIED CARD OF 'foliantlaw43.OpsRead'. -/
def opsReadCard : Claim7 := { stood := { row := opsReadRow, standIns := [], harness := (true, "0ec8ef1e9a05a7991b2d720637d5c83679d09b57f9908006b68d088581628dcf"), looks := true }, kinds := [], alts := [], laidByText := true, laidKinds := [.data, .data, .data, .data, .listed, .data, .pinned], laidTests := true, laidLooks := .later }
def OpsReadCardSaid : Prop := Claim7.holds Tryz.pinned (.plain (OpenSpec.ofChange opsReadSpec)) opsReadCard

/-- THE TIED CARD OF 'foliantlaw43.OpsBack'. -/
def opsBackCard : Claim7 := { stood := { row := opsBackRow, standIns := [], harness := (true, "0ec8ef1e9a05a7991b2d720637d5c83679d09b57f9908006b68d088581628dcf"), looks := true }, kinds := [], alts := [], laidByText := true, laidKinds := [.data, .data, .data, .data, .listed, .data, .pinned], laidTests := true, laidLooks := .later }
def OpsBackCardSaid : Prop := Claim7.holds Tryz.pinned (.plain (OpenSpec.ofChange opsBackSpec)) opsBackCard

/-- THE TIED CARD OF 'foliantlaw43.OpsMay'. -/
def opsMayCard : Claim7 := { stood := { row := opsMayRow, standIns := [], harness := (true, "0ec8ef1e9a05a7991b2d720637d5c83679d09b57f9908006b68d088581628dcf"), looks := true }, kinds := [], alts := [], laidByText := true, laidKinds := [.data, .data, .data, .data, .listed, .data, .pinned], laidTests := true, laidLooks := .later }
def OpsMayCardSaid : Prop := Claim7.holds Tryz.pinned (.plain (OpenSpec.ofChange opsMaySpec)) opsMayCard

/-- THE TIED CARD OF 'foliantlaw43.OpsJoin'. -/
def opsJoinCard : Claim7 := { stood := { row := opsJoinRow, standIns := [], harness := (true, "0ec8ef1e9a05a7991b2d720637d5c83679d09b57f9908006b68d088581628dcf"), looks := true }, kinds := [], alts := [], laidByText := true, laidKinds := [.data, .data, .data, .data, .listed, .data, .pinned], laidTests := true, laidLooks := .later }
def OpsJoinCardSaid : Prop := Claim7.holds Tryz.pinned (.plain (OpenSpec.ofChange opsJoinSpec)) opsJoinCard

/-- THE SECOND FORM's CARD OF 'foliantlaw43.OpsRead'. -/
def opsReadUptoCard : Claim7 := { stood := { row := opsReadUptoRow, standIns := [], harness := (true, "0ec8ef1e9a05a7991b2d720637d5c83679d09b57f9908006b68d088581628dcf"), looks := true }, kinds := [], alts := [], laidByText := true, laidKinds := [.data, .data, .data, .data, .listed, .data, .pinned], laidTests := true, laidLooks := .later }
def OpsReadUptoCardSaid : Prop := Claim7.holds Tryz.pinned (.plain (OpenSpec.upto opsReadSpec)) opsReadUptoCard

/-- THE SECOND FORM's CARD OF 'foliantlaw43.OpsBack'. -/
def opsBackUptoCard : Claim7 := { stood := { row := opsBackUptoRow, standIns := [], harness := (true, "0ec8ef1e9a05a7991b2d720637d5c83679d09b57f9908006b68d088581628dcf"), looks := true }, kinds := [], alts := [], laidByText := true, laidKinds := [.data, .data, .data, .data, .listed, .data, .pinned], laidTests := true, laidLooks := .later }
def OpsBackUptoCardSaid : Prop := Claim7.holds Tryz.pinned (.plain (OpenSpec.upto opsBackSpec)) opsBackUptoCard

/-- THE SECOND FORM's CARD OF 'foliantlaw43.OpsMay'. -/
def opsMayUptoCard : Claim7 := { stood := { row := opsMayUptoRow, standIns := [], harness := (true, "0ec8ef1e9a05a7991b2d720637d5c83679d09b57f9908006b68d088581628dcf"), looks := true }, kinds := [], alts := [], laidByText := true, laidKinds := [.data, .data, .data, .data, .listed, .data, .pinned], laidTests := true, laidLooks := .later }
def OpsMayUptoCardSaid : Prop := Claim7.holds Tryz.pinned (.plain (OpenSpec.upto opsMaySpec)) opsMayUptoCard

/-- THE SECOND FORM's CARD OF 'foliantlaw43.OpsJoin'. -/
def opsJoinUptoCard : Claim7 := { stood := { row := opsJoinUptoRow, standIns := [], harness := (true, "0ec8ef1e9a05a7991b2d720637d5c83679d09b57f9908006b68d088581628dcf"), looks := true }, kinds := [], alts := [], laidByText := true, laidKinds := [.data, .data, .data, .data, .listed, .data, .pinned], laidTests := true, laidLooks := .later }
def OpsJoinUptoCardSaid : Prop := Claim7.holds Tryz.pinned (.plain (OpenSpec.upto opsJoinSpec)) opsJoinUptoCard
end Rows
end Go.Proofs.YtoofficgclghoaaGreatDoor
