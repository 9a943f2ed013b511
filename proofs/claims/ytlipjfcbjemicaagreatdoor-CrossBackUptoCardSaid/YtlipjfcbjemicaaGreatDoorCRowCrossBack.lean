/- The row and the card of foliantlaw20.CrossBack: printed by law.py. -/
import Derived.Test.YtlipjfcbjemicaaGreatDoorMdnhppbcg
import Derived.Test.YtlipjfcbjemicaaGreatDoorMdcceohmh
import Derived.Test.YtlipjfcbjemicaaGreatDoorMffnbibpl
import Derived.Test.YtlipjfcbjemicaaGreatDoorMimcpefbm
import Derived.Test.YtlipjfcbjemicaaGreatDoorMcdnbgdlj
import Derived.Test.YtlipjfcbjemicaaGreatDoorMjckbdplf
import Derived.Test.YtlipjfcbjemicaaGreatDoorMkjlejeag
import Derived.Test.YtlipjfcbjemicaaGreatDoorMbaehbcbl
import Derived.Test.YtlipjfcbjemicaaGreatDoorMfkeaojie
import Derived.Test.YtlipjfcbjemicaaGreatDoorCards
import Derived.Test.YtlipjfcbjemicaaGreatDoorTie
import Derived.Test.YtlipjfcbjemicaaGreatDoorRowFCrossBack
import Derived.Test.YtlipjfcbjemicaaGreatDoorRowFGCrossBack
namespace Go.Proofs.YtlipjfcbjemicaaGreatDoor
set_option linter.unusedVariables false
set_option linter.unusedSimpArgs false
set_option linter.defProp false
namespace RowCrossBack
open Eng Go.ChangeShapes Go.WideShapes Go.ChangeAt Go.RowKit
open Go.ChangeMaps (open_string shut_string)
set_option linter.unusedVariables false

theorem own : ownKnob Tryz.prog.godebug = none := by kernel_rfl
theorem laidOut : laidOutB Tryz.prog = true := by kernel_rfl
set_option maxRecDepth 100000 in
theorem Xd (H : Type) (enc : TypeId × Value → H) (W : World) (base : Nat) (args : Array Value) (ds gs : List (DataW H)) (before : List MemPlace)
    (hval : ∀ (j : Nat) t v, Tryz.f9.params[j]? = some t → args[j]? = some v → Value.okWide Tryz.prog W .any base t v)
    (hW : DataW.Whole enc Tryz.prog Tryz.f9.params.toList Rows.crossBackSpec.vars false W args.toList ds gs before) (hL : laidMet Tryz.prog Rows.crossBackUptoRow.laid W) (hk : Rows.uptoSmall H (ds ++ gs) = true) :
    Calls Tryz.prog 9 args W fun e W' => ∃ v, e = .returned v ∧ Rows.crossBackSpec.post enc Tryz.prog Tryz.f9 false true false false W args v W' := by
  have hW' := hW
  obtain ⟨p, q, hA0, hV, rfl, hfz, hnd⟩ := hW
  have hA : DataW.TrodAll enc Tryz.prog W 0 (fun _ => true) true Tryz.f9.params.toList args.toList ds p := hA0
  rw [Tryz.params9] at hA hval
  obtain ⟨v0, vs0, d0, ds0, p0, q0, hargs, rfl, rfl, k0, r0⟩ := trodAll_cons hA
  obtain ⟨v1, vs1, d1, ds1, p1, q1, hvs1, rfl, rfl, k1, r1⟩ := trodAll_cons r0
  obtain ⟨hnil, rfl, rfl⟩ := trodAll_nil r1
  subst hnil
  subst hvs1
  obtain rfl : args = #[v0, v1] := by cases args; simp_all
  obtain ⟨rfl, rfl⟩ := trodVars_none hV
  obtain ⟨x0, hv0, hn0, hw0, hl0⟩ := Np (hval 0 63 v0 rfl rfl) k0
  obtain ⟨a1, rfl, rfl, rfl, hw1⟩ := open_int anT (hval 1 3 v1 rfl rfl) k1
  have h1 := lP hw1
  clear hA0
  simp only [amY, anV] at hW' hk
  have hod : Od (Mem.all W) := Zz (Lib.tabIs_of_head (g := 2) (by kernel_rfl) (by kernel_rfl) Tryz.underlying308 anT (by kernel_rfl) (by kernel_rfl) hL)
  have hrp : Rp (Mem.all W) := ZH (xK hL)
  have hpw : Pws (Mem.all W) := WT (Lib.tabIs_of_head (g := 0) (by kernel_rfl) (by kernel_rfl) Tryz.underlying197 Tryz.underlying147 (by kernel_rfl) (by kernel_rfl) (xK (xK hL)))
  have walk : Ret Tryz.prog 9 #[v0, .int .i64 a1] W (fun v w' => v = .bool true ∧ Below W.heap.size W w') := crossBack_row x0 v0 a1 W hrp hod hpw hv0 (by have := adI hk; omega) (by have := adI hk; omega)
  refine Calls.mono walk ?_
  rintro e W' ⟨v, rfl, rfl, hb⟩
  exact ⟨_, rfl, VW laidOut (by kernel_rfl) (by kernel_rfl) Tryz.underlying4 rfl hW' rfl hb⟩

noncomputable def He (os : Os) : World :=
  (PZ (Zy (PZ (World.holding Tryz.prog os ⟨#[], #[], []⟩) 2 (aeM Rows.laid_foliant_inflate_order)) 3) 0 (aeM Rows.laid_foliant_ascii_powers))
theorem XB (os : Os) : laidMet Tryz.prog Rows.crossBackUptoRow.laid ((He os).forCall (fun _ _ => 0) ⟨#[], #[.agg #[.int .i64 0, .slice none 0 0, .int .i64 0, .int .i64 0, .int .i64 0, .string ⟨#[]⟩, .slice none 0 0, .slice none 0 0, .int .i64 0, .int .i64 0, .int .i64 0], .int .i64 0], []⟩).memory :=
  laidMet_of_run' 8 (by kernel_rfl) (by kernel_rfl)
theorem reads (os : Os) {H : Type} (enc : TypeId × Value → H) : ∃ places, DataW.whole enc Tryz.prog ((He os).forCall (fun _ _ => 0) ⟨#[], #[.agg #[.int .i64 0, .slice none 0 0, .int .i64 0, .int .i64 0, .int .i64 0, .string ⟨#[]⟩, .slice none 0 0, .slice none 0 0, .int .i64 0, .int .i64 0, .int .i64 0], .int .i64 0], []⟩).memory Tryz.f9.params.toList Rows.crossBackSpec.vars false #[.agg #[.int .i64 0, .slice none 0 0, .int .i64 0, .int .i64 0, .int .i64 0, .string ⟨#[]⟩, .slice none 0 0, .slice none 0 0, .int .i64 0, .int .i64 0, .int .i64 0], .int .i64 0].toList 8 = some ([.agg [.lit (.int .i64 0), .nil, .agg [.lit (.int .i64 0), .lit (.int .i64 0), .lit (.int .i64 0), .lit (.string []), .nil, .nil], .lit (.int .i64 0), .lit (.int .i64 0), .lit (.int .i64 0)], .lit (.int .i64 0)], [], places) :=
  ⟨[], by kernel_rfl⟩

set_option maxRecDepth 100000 in
theorem lifted (os : Os) (started : os.Started) (H : Type) (enc : TypeId × Value → H) (F : Stop.Interp) :
    ReturnsInHanded {} Tryz.checked os 9 .any ((Rows.OpenSpec.upto Rows.crossBackSpec).preRow enc Tryz.prog Tryz.f9 Rows.crossBackUptoRow.domain false Rows.crossBackUptoRow.laid) (((Rows.OpenSpec.upto Rows.crossBackSpec).at F).post enc Tryz.prog Tryz.f9 false true false false) := by
  obtain ⟨places, hx⟩ := reads os enc
  refine returnsInHanded_of_row (C := Tryz.checked) (s := Rows.OpenSpec.upto Rows.crossBackSpec) own started (by kernel_rfl) Tryz.func9
    (witness_row_at (enc := enc) (C := Tryz.checked) false (He os) #[.agg #[.int .i64 0, .slice none 0 0, .int .i64 0, .int .i64 0, .int .i64 0, .string ⟨#[]⟩, .slice none 0 0, .slice none 0 0, .int .i64 0, .int .i64 0, .int .i64 0], .int .i64 0] rfl (by kernel_rfl) (by kernel_rfl) (by kernel_rfl)
      (OpenSpec.preRow_of_cond 8 hx (by kernel_rfl) (fun k hk => by cases hk; kernel_rfl) (by kernel_rfl) (XB os))) ?_
  intro W base args ds gs before hval hW _ hcond _ hL _ _
  exact Xd H enc W base args ds gs before hval hW hL (hcond _ rfl)
theorem said : Rows.CrossBackUptoSaid :=
  OpenClaim.holds_of_cond 9 Tryz.f9 rfl rfl rfl rfl rfl rfl rfl ⟨rfl, rfl, rfl, rfl, rfl⟩ rfl rfl rfl rfl rfl (by kernel_rfl) Tryz.func9 closed
    (amU (by kernel_rfl)) (by unfold Func.isWrapper; first | (rw [amB (by decide +kernel)]; kernel_rfl) | (rw [amA (by decide +kernel)]; exact ⟨rfl, rfl⟩))
    (fun os started H enc _ F => by rw [OpenClaim.pre_eq_preRow]; exact lifted os started H enc F)
theorem plain (f : FuncId) (fn : Func) (hf : Tryz.pinned.checked.prog.funcNamed "foliant/foliantlaw20.CrossBack" = some f) (hfn : Tryz.pinned.checked.prog.funcs[f]? = some fn) :
    true = Tryz.pinned.checked.prog.looks [] ∧ ∀ (j : Nat) t, fn.params[j]? = some t → Tryz.pinned.checked.prog.wantsStandIn t = false := by
  obtain rfl : f = 9 := apF ((show Tryz.prog.funcNamed "foliant/foliantlaw20.CrossBack" = some 9 by kernel_rfl).symm.trans hf) |>.symm
  obtain rfl : fn = Tryz.f9 := (apF (Tryz.func9.symm.trans hfn)).symm
  refine ⟨by kernel_rfl, fun j t ht => ?_⟩
  rw [Tryz.params9] at ht
  have hall : #[63, 3].all (fun t => !(Tryz.prog.wantsStandIn t)) = true := by kernel_rfl
  have := Array.all_eq_true_iff_forall_mem.1 hall t (arY ht)
  show Tryz.prog.wantsStandIn t = false
  simpa using this
end RowCrossBack
/-- THE CARD. -/
theorem crossBack_card : Rows.CrossBackUptoCardSaid :=
  Claim7.holds_tied_plain_at .later [] _ _ _ _ RowCrossBack.said (fun _ h => by cases h) RowCrossBack.wf (fun _ h => by cases h) crossBackUpto_row_tie rfl ⟨rfl, rfl⟩ (by kernel_rfl) rfl RowCrossBack.plain RowCrossBack.goes
end Go.Proofs.YtlipjfcbjemicaaGreatDoor
