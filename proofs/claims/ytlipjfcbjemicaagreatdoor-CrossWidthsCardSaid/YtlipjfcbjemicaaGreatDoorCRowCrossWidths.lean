/- The row and the card of foliantlaw20.CrossWidths: printed by law.py. -/
import Derived.Test.YtlipjfcbjemicaaGreatDoorMchdgllkl
import Derived.Test.YtlipjfcbjemicaaGreatDoorMgodllgbf
import Derived.Test.YtlipjfcbjemicaaGreatDoorMnccpkcan
import Derived.Test.YtlipjfcbjemicaaGreatDoorMiiooibda
import Derived.Test.YtlipjfcbjemicaaGreatDoorMihpipgia
import Derived.Test.YtlipjfcbjemicaaGreatDoorMigpkhdkb
import Derived.Test.YtlipjfcbjemicaaGreatDoorMdodpohcb
import Derived.Test.YtlipjfcbjemicaaGreatDoorMlinfoank
import Derived.Test.YtlipjfcbjemicaaGreatDoorMgfmldkph
import Derived.Test.YtlipjfcbjemicaaGreatDoorCards
import Derived.Test.YtlipjfcbjemicaaGreatDoorTie
import Derived.Test.YtlipjfcbjemicaaGreatDoorRowFCrossWidths
import Derived.Test.YtlipjfcbjemicaaGreatDoorRowFGCrossWidths
namespace Go.Proofs.YtlipjfcbjemicaaGreatDoor
set_option linter.unusedVariables false
set_option linter.unusedSimpArgs false
set_option linter.defProp false
namespace RowCrossWidths
open Eng Go.ChangeShapes Go.WideShapes Go.ChangeAt Go.RowKit
open Go.ChangeMaps (open_string shut_string)
set_option linter.unusedVariables false

theorem own : ownKnob Tryz.prog.godebug = none := by kernel_rfl
theorem laidOut : laidOutB Tryz.prog = true := by kernel_rfl
set_option maxRecDepth 100000 in
theorem V6 (H : Type) (enc : TypeId × Value → H) (W : World) (base : Nat) (args : Array Value) (ds gs : List (DataW H)) (before : List MemPlace)
    (hval : ∀ (j : Nat) t v, Tryz.f10.params[j]? = some t → args[j]? = some v → Value.okWide Tryz.prog W .any base t v)
    (hW : DataW.Whole enc Tryz.prog Tryz.f10.params.toList Rows.crossWidthsSpec.vars false W args.toList ds gs before) (hL : laidMet Tryz.prog Rows.crossWidthsRow.laid W) :
    Calls Tryz.prog 10 args W fun e W' => ∃ v, e = .returned v ∧ Rows.crossWidthsSpec.post enc Tryz.prog Tryz.f10 false true false false W args v W' := by
  have hW' := hW
  obtain ⟨p, q, hA0, hV, rfl, hfz, hnd⟩ := hW
  have hA : DataW.TrodAll enc Tryz.prog W 0 (fun _ => true) true Tryz.f10.params.toList args.toList ds p := hA0
  rw [Tryz.params10] at hA hval
  obtain ⟨v0, vs0, d0, ds0, p0, q0, hargs, rfl, rfl, k0, r0⟩ := trodAll_cons hA
  obtain ⟨hnil, rfl, rfl⟩ := trodAll_nil r0
  subst hnil
  obtain rfl : args = #[v0] := by cases args; simp_all
  obtain ⟨rfl, rfl⟩ := trodVars_none hV
  obtain ⟨l0, hs0, hn0, hl0⟩ := Vo (hval 0 61 v0 rfl rfl) k0
  clear hA0
  simp only [amE, amZ] at hW'
  have hod : Od (Mem.all W) := Zh (Lib.tabIs_of_head (g := 2) (by kernel_rfl) (by kernel_rfl) Tryz.underlying308 anG (by kernel_rfl) (by kernel_rfl) hL)
  have hrp : Rp (Mem.all W) := ZF (xC hL)
  have hpw : Pws (Mem.all W) := VN (Lib.tabIs_of_head (g := 0) (by kernel_rfl) (by kernel_rfl) Tryz.underlying197 Tryz.underlying147 (by kernel_rfl) (by kernel_rfl) (xC (xC hL)))
  have walk : Ret Tryz.prog 10 #[v0] W (fun v w' => v = .bool true ∧ Below W.heap.size W w') := crossWidths_row l0 v0 W hrp hod hpw hs0 hn0 hl0
  refine Calls.mono walk ?_
  rintro e W' ⟨v, rfl, rfl, hb⟩
  exact ⟨_, rfl, Xr laidOut (by kernel_rfl) (by kernel_rfl) Tryz.underlying4 rfl hW' rfl hb⟩

noncomputable def Hw (os : Os) : World :=
  (OY (aaA (OY (World.holding Tryz.prog os ⟨#[], #[], []⟩) 2 (abQ Rows.laid_foliant_inflate_order)) 3) 0 (abQ Rows.laid_foliant_ascii_powers))
theorem Xv (os : Os) : laidMet Tryz.prog Rows.crossWidthsRow.laid ((Hw os).forCall (fun _ _ => 0) ⟨#[], #[.slice none 0 0], []⟩).memory :=
  laidMet_of_run' 8 (by kernel_rfl) (by kernel_rfl)
theorem reads (os : Os) {H : Type} (enc : TypeId × Value → H) : ∃ places, DataW.whole enc Tryz.prog ((Hw os).forCall (fun _ _ => 0) ⟨#[], #[.slice none 0 0], []⟩).memory Tryz.f10.params.toList Rows.crossWidthsSpec.vars false #[.slice none 0 0].toList 8 = some ([.nil], [], places) :=
  ⟨[], by kernel_rfl⟩

set_option maxRecDepth 100000 in
theorem lifted (os : Os) (started : os.Started) (H : Type) (enc : TypeId × Value → H) (F : Stop.Interp) :
    ReturnsInHanded {} Tryz.checked os 10 .any ((OpenSpec.ofChange Rows.crossWidthsSpec).preRow enc Tryz.prog Tryz.f10 Rows.crossWidthsRow.domain false Rows.crossWidthsRow.laid) (((OpenSpec.ofChange Rows.crossWidthsSpec).at F).post enc Tryz.prog Tryz.f10 false true false false) := by
  obtain ⟨places, hx⟩ := reads os enc
  refine returnsInHanded_of_row (C := Tryz.checked) (s := OpenSpec.ofChange Rows.crossWidthsSpec) own started (by kernel_rfl) Tryz.func10
    (witness_row_at (enc := enc) (C := Tryz.checked) false (Hw os) #[.slice none 0 0] rfl (by kernel_rfl) (by kernel_rfl) (by kernel_rfl)
      (OpenSpec.preRow_of_cond 8 hx (by kernel_rfl) (fun k hk => by cases hk) (by kernel_rfl) (Xv os))) ?_
  intro W base args ds gs before hval hW _ _ _ hL _ _
  exact V6 H enc W base args ds gs before hval hW hL
theorem said : Rows.CrossWidthsSaid :=
  OpenClaim.holds_of_cond 10 Tryz.f10 rfl rfl rfl rfl rfl rfl rfl ⟨rfl, rfl, rfl, rfl, rfl⟩ rfl rfl rfl rfl rfl (by kernel_rfl) Tryz.func10 closed
    (alZ (by kernel_rfl)) (by unfold Func.isWrapper; first | (rw [alH (by decide +kernel)]; kernel_rfl) | (rw [alG (by decide +kernel)]; exact ⟨rfl, rfl⟩))
    (fun os started H enc _ F => by rw [OpenClaim.pre_eq_preRow]; exact lifted os started H enc F)
theorem plain (f : FuncId) (fn : Func) (hf : Tryz.pinned.checked.prog.funcNamed "foliant/foliantlaw20.CrossWidths" = some f) (hfn : Tryz.pinned.checked.prog.funcs[f]? = some fn) :
    true = Tryz.pinned.checked.prog.looks [] ∧ ∀ (j : Nat) t, fn.params[j]? = some t → Tryz.pinned.checked.prog.wantsStandIn t = false := by
  obtain rfl : f = 10 := aoJ ((show Tryz.prog.funcNamed "foliant/foliantlaw20.CrossWidths" = some 10 by kernel_rfl).symm.trans hf) |>.symm
  obtain rfl : fn = Tryz.f10 := (aoJ (Tryz.func10.symm.trans hfn)).symm
  refine ⟨by kernel_rfl, fun j t ht => ?_⟩
  rw [Tryz.params10] at ht
  have hall : #[61].all (fun t => !(Tryz.prog.wantsStandIn t)) = true := by kernel_rfl
  have := Array.all_eq_true_iff_forall_mem.1 hall t (arD ht)
  show Tryz.prog.wantsStandIn t = false
  simpa using this
end RowCrossWidths
/-- THE CARD. -/
theorem crossWidths_card : Rows.CrossWidthsCardSaid :=
  Claim7.holds_tied_plain_at .later [] _ _ _ _ RowCrossWidths.said (fun _ h => by cases h) RowCrossWidths.wf (fun _ h => by cases h) crossWidths_row_tie rfl ⟨rfl, rfl⟩ (by kernel_rfl) rfl RowCrossWidths.plain RowCrossWidths.goes
end Go.Proofs.YtlipjfcbjemicaaGreatDoor
