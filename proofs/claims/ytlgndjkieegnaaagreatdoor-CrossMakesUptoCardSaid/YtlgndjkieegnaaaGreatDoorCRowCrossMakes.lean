/- The row and the card of foliantlaw20.CrossMakes: printed by law.py. -/
import Derived.Test.YtlgndjkieegnaaaGreatDoorMjamfioao
import Derived.Test.YtlgndjkieegnaaaGreatDoorMeabjbifi
import Derived.Test.YtlgndjkieegnaaaGreatDoorMfogfcndg
import Derived.Test.YtlgndjkieegnaaaGreatDoorMpnjicoea
import Derived.Test.YtlgndjkieegnaaaGreatDoorMdbklghoo
import Derived.Test.YtlgndjkieegnaaaGreatDoorMgokndlkf
import Derived.Test.YtlgndjkieegnaaaGreatDoorMkfmddlep
import Derived.Test.YtlgndjkieegnaaaGreatDoorMcmkgepbp
import Derived.Test.YtlgndjkieegnaaaGreatDoorMfbkkdfio
import Derived.Test.YtlgndjkieegnaaaGreatDoorMenoidhli
import Derived.Test.YtlgndjkieegnaaaGreatDoorCards
import Derived.Test.YtlgndjkieegnaaaGreatDoorTie
import Derived.Test.YtlgndjkieegnaaaGreatDoorRowFCrossMakes
import Derived.Test.YtlgndjkieegnaaaGreatDoorRowFGCrossMakes
namespace Go.Proofs.YtlgndjkieegnaaaGreatDoor
set_option linter.unusedVariables false
set_option linter.unusedSimpArgs false
set_option linter.defProp false
namespace RowCrossMakes
open Eng Go.ChangeShapes Go.WideShapes Go.ChangeAt Go.RowKit
open Go.ChangeMaps (open_string shut_string)
set_option linter.unusedVariables false

theorem own : ownKnob Tryz.prog.godebug = none := by kernel_rfl
theorem laidOut : laidOutB Tryz.prog = true := by kernel_rfl
set_option maxRecDepth 100000 in
theorem aaN (H : Type) (enc : TypeId × Value → H) (W : World) (base : Nat) (args : Array Value) (ds gs : List (DataW H)) (before : List MemPlace)
    (hval : ∀ (j : Nat) t v, Tryz.f4.params[j]? = some t → args[j]? = some v → Value.okWide Tryz.prog W .any base t v)
    (hW : DataW.Whole enc Tryz.prog Tryz.f4.params.toList Rows.crossMakesSpec.vars false W args.toList ds gs before) (hL : laidMet Tryz.prog Rows.crossMakesUptoRow.laid W) (hk : Rows.uptoSmall H (ds ++ gs) = true) :
    Calls Tryz.prog 4 args W fun e W' => ∃ v, e = .returned v ∧ Rows.crossMakesSpec.post enc Tryz.prog Tryz.f4 false true false false W args v W' := by
  have hW' := hW
  obtain ⟨p, q, hA0, hV, rfl, hfz, hnd⟩ := hW
  have hA : DataW.TrodAll enc Tryz.prog W 0 (fun _ => true) true Tryz.f4.params.toList args.toList ds p := hA0
  rw [Tryz.params4] at hA hval
  obtain ⟨v0, vs0, d0, ds0, p0, q0, hargs, rfl, rfl, k0, r0⟩ := trodAll_cons hA
  obtain ⟨hnil, rfl, rfl⟩ := trodAll_nil r0
  subst hnil
  obtain rfl : args = #[v0] := by cases args; simp_all
  obtain ⟨rfl, rfl⟩ := trodVars_none hV
  obtain ⟨x0, hv0, hn0, hi0, hw0, hl0⟩ := O3 (hval 0 34 v0 rfl rfl) k0
  clear hA0
  simp only [avA, avU] at hW' hk
  have hod : Od (Mem.all W) := agF (Lib.tabIs_of_head (g := 2) (by kernel_rfl) (by kernel_rfl) Tryz.underlying295 avY (by kernel_rfl) (by kernel_rfl) hL)
  have hrp : Rp (Mem.all W) := ahY (Cb hL)
  have hpw : Pws (Mem.all W) := abQ (Lib.tabIs_of_head (g := 0) (by kernel_rfl) (by kernel_rfl) Tryz.underlying200 Tryz.underlying165 (by kernel_rfl) (by kernel_rfl) (Cb (Cb hL)))
  have walk : Ret Tryz.prog 4 #[v0] W (fun v w' => v = .bool true ∧ Below W.heap.size W w') := crossMakes_row x0 v0 W hrp hod hpw hv0 hi0 (by have := aoX hk; omega) (by have := aoX hk; omega)
  refine Calls.mono walk ?_
  rintro e W' ⟨v, rfl, rfl, hb⟩
  exact ⟨_, rfl, ZM laidOut (by kernel_rfl) (by kernel_rfl) Tryz.underlying4 rfl hW' rfl hb⟩

noncomputable def JA (os : Os) : World :=
  (Sf (ajB (Sf (World.holding Tryz.prog os ⟨#[], #[], []⟩) 2 (anG Rows.laid_foliant_inflate_order)) 3) 0 (anG Rows.laid_foliant_ascii_powers))
theorem acF (os : Os) : laidMet Tryz.prog Rows.crossMakesUptoRow.laid ((JA os).forCall (fun _ _ => 0) ⟨#[], #[.agg #[.int .i64 0, .slice none 0 0, .int .i64 0, .int .i64 0, .int .i64 0, .string ⟨#[]⟩, .slice none 0 0, .slice none 0 0, .int .i64 0, .int .i64 0, .int .i64 0]], []⟩).memory :=
  laidMet_of_run' 8 (by kernel_rfl) (by kernel_rfl)
theorem reads (os : Os) {H : Type} (enc : TypeId × Value → H) : ∃ places, DataW.whole enc Tryz.prog ((JA os).forCall (fun _ _ => 0) ⟨#[], #[.agg #[.int .i64 0, .slice none 0 0, .int .i64 0, .int .i64 0, .int .i64 0, .string ⟨#[]⟩, .slice none 0 0, .slice none 0 0, .int .i64 0, .int .i64 0, .int .i64 0]], []⟩).memory Tryz.f4.params.toList Rows.crossMakesSpec.vars false #[.agg #[.int .i64 0, .slice none 0 0, .int .i64 0, .int .i64 0, .int .i64 0, .string ⟨#[]⟩, .slice none 0 0, .slice none 0 0, .int .i64 0, .int .i64 0, .int .i64 0]].toList 8 = some ([.agg [.lit (.int .i64 0), .nil, .agg [.lit (.int .i64 0), .lit (.int .i64 0), .lit (.int .i64 0), .lit (.string []), .nil, .nil], .lit (.int .i64 0), .lit (.int .i64 0), .lit (.int .i64 0)]], [], places) :=
  ⟨[], by kernel_rfl⟩

set_option maxRecDepth 100000 in
theorem lifted (os : Os) (started : os.Started) (H : Type) (enc : TypeId × Value → H) (F : Stop.Interp) :
    ReturnsInHanded {} Tryz.checked os 4 .any ((Rows.OpenSpec.upto Rows.crossMakesSpec).preRow enc Tryz.prog Tryz.f4 Rows.crossMakesUptoRow.domain false Rows.crossMakesUptoRow.laid) (((Rows.OpenSpec.upto Rows.crossMakesSpec).at F).post enc Tryz.prog Tryz.f4 false true false false) := by
  obtain ⟨places, hx⟩ := reads os enc
  refine returnsInHanded_of_row (C := Tryz.checked) (s := Rows.OpenSpec.upto Rows.crossMakesSpec) own started (by kernel_rfl) Tryz.func4
    (witness_row_at (enc := enc) (C := Tryz.checked) false (JA os) #[.agg #[.int .i64 0, .slice none 0 0, .int .i64 0, .int .i64 0, .int .i64 0, .string ⟨#[]⟩, .slice none 0 0, .slice none 0 0, .int .i64 0, .int .i64 0, .int .i64 0]] rfl (by kernel_rfl) (by kernel_rfl) (by kernel_rfl)
      (OpenSpec.preRow_of_cond 8 hx (by kernel_rfl) (fun k hk => by cases hk; kernel_rfl) (by kernel_rfl) (acF os))) ?_
  intro W base args ds gs before hval hW _ hcond _ hL _ _
  exact aaN H enc W base args ds gs before hval hW hL (hcond _ rfl)
theorem said : Rows.CrossMakesUptoSaid :=
  OpenClaim.holds_of_cond 4 Tryz.f4 rfl rfl rfl rfl rfl rfl rfl ⟨rfl, rfl, rfl, rfl, rfl⟩ rfl rfl rfl rfl rfl (by kernel_rfl) Tryz.func4 closed
    (auW (by kernel_rfl)) (by unfold Func.isWrapper; first | (rw [auC (by decide +kernel)]; kernel_rfl) | (rw [auB (by decide +kernel)]; exact ⟨rfl, rfl⟩))
    (fun os started H enc _ F => by rw [OpenClaim.pre_eq_preRow]; exact lifted os started H enc F)
theorem plain (f : FuncId) (fn : Func) (hf : Tryz.pinned.checked.prog.funcNamed "foliant/foliantlaw20.CrossMakes" = some f) (hfn : Tryz.pinned.checked.prog.funcs[f]? = some fn) :
    true = Tryz.pinned.checked.prog.looks [] ∧ ∀ (j : Nat) t, fn.params[j]? = some t → Tryz.pinned.checked.prog.wantsStandIn t = false := by
  obtain rfl : f = 4 := axN ((show Tryz.prog.funcNamed "foliant/foliantlaw20.CrossMakes" = some 4 by kernel_rfl).symm.trans hf) |>.symm
  obtain rfl : fn = Tryz.f4 := (axN (Tryz.func4.symm.trans hfn)).symm
  refine ⟨by kernel_rfl, fun j t ht => ?_⟩
  rw [Tryz.params4] at ht
  have hall : #[34].all (fun t => !(Tryz.prog.wantsStandIn t)) = true := by kernel_rfl
  have := Array.all_eq_true_iff_forall_mem.1 hall t (aAg ht)
  show Tryz.prog.wantsStandIn t = false
  simpa using this
end RowCrossMakes
/-- THE CARD. -/
theorem crossMakes_card : Rows.CrossMakesUptoCardSaid :=
  Claim7.holds_tied_plain_at .later [] _ _ _ _ RowCrossMakes.said (fun _ h => by cases h) RowCrossMakes.wf (fun _ h => by cases h) crossMakesUpto_row_tie rfl ⟨rfl, rfl⟩ (by kernel_rfl) rfl RowCrossMakes.plain RowCrossMakes.goes
end Go.Proofs.YtlgndjkieegnaaaGreatDoor
