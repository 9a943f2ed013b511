/- The row and the card of foliantlaw43.OpsRead: printed by law.py. -/
import Derived.Test.YtoofficgclghoaaGreatDoorMlengaipi
import Derived.Test.YtoofficgclghoaaGreatDoorMdldongdl
import Derived.Test.YtoofficgclghoaaGreatDoorMjoallmgc
import Derived.Test.YtoofficgclghoaaGreatDoorMjjgpfbaj
import Derived.Test.YtoofficgclghoaaGreatDoorMmmaflfbf
import Derived.Test.YtoofficgclghoaaGreatDoorMpnbdiiaj
import Derived.Test.YtoofficgclghoaaGreatDoorMofadhaon
import Derived.Test.YtoofficgclghoaaGreatDoorCards
import Derived.Test.YtoofficgclghoaaGreatDoorTie
import Derived.Test.YtoofficgclghoaaGreatDoorRowFOpsRead
import Derived.Lay
import Derived.Deep.DeepWitnessRowRef
namespace Go.Proofs.YtoofficgclghoaaGreatDoor
set_option linter.unusedVariables false
set_option linter.unusedSimpArgs false
set_option linter.defProp false
namespace RowOpsRead
open Eng Go.ChangeShapes Go.WideShapes Go.ChangeAt Go.RowKit
open Go.ChangeMaps (open_string shut_string)
set_option linter.unusedVariables false

theorem own : ownKnob Tryz.prog.godebug = none := by kernel_rfl
theorem laidOut : laidOutB Tryz.prog = true := by kernel_rfl
set_option maxRecDepth 100000 in
theorem Sz (H : Type) (enc : TypeId × Value → H) (W : World) (base : Nat) (args : Array Value) (ds gs : List (DataW H)) (before : List MemPlace)
    (hval : ∀ (j : Nat) t v, Tryz.f3.params[j]? = some t → args[j]? = some v → Value.okWide Tryz.prog W .any base t v)
    (hW : DataW.Whole enc Tryz.prog Tryz.f3.params.toList Rows.opsReadSpec.vars false W args.toList ds gs before) (hL : laidMet Tryz.prog Rows.opsReadRow.laid W) :
    Calls Tryz.prog 3 args W fun e W' => ∃ v, e = .returned v ∧ Rows.opsReadSpec.post enc Tryz.prog Tryz.f3 false true false false W args v W' := by
  have hW' := hW
  obtain ⟨p, q, hA0, hV, rfl, hfz, hnd⟩ := hW
  have hA : DataW.TrodAll enc Tryz.prog W 0 (fun _ => true) true Tryz.f3.params.toList args.toList ds p := hA0
  rw [Tryz.params3] at hA hval
  obtain ⟨v0, vs0, d0, ds0, p0, q0, hargs, rfl, rfl, k0, r0⟩ := trodAll_cons hA
  obtain ⟨hnil, rfl, rfl⟩ := trodAll_nil r0
  subst hnil
  obtain rfl : args = #[v0] := by cases args; simp_all
  obtain ⟨rfl, rfl⟩ := trodVars_none hV
  obtain ⟨s0, rfl, rfl, rfl, hs0⟩ := open_string Tryz.underlying9 (hval 0 9 v0 rfl rfl) k0
  have h0 : s0.data.toList.length ≤ 9223372036854775807 := by rw [← Lib.size_eq]; exact hs0
  clear hA0
  simp only [List.append_nil, List.nil_append] at hW'
  have ht : Tb W := Lib.tabIs_of_head (g := 3) (by kernel_rfl) (by kernel_rfl) Tryz.underlying251 Tryz.underlying228 (by kernel_rfl) (by kernel_rfl) (eV (eV hL))
  have hsp : Sp W := Lib.tabIs_of_head (g := 0) (by kernel_rfl) (by kernel_rfl) Tryz.underlying101 Tryz.underlying5 (by kernel_rfl) (by kernel_rfl) (eV (eV (eV (eV (eV hL)))))
  have walk : Ret Tryz.prog 3 #[.string s0] W (fun v w' => v = .bool true ∧ Below W.heap.size W w') := KX s0.data.toList W ht hsp
  refine Calls.mono walk ?_
  rintro e W' ⟨v, rfl, rfl, hb⟩
  exact ⟨_, rfl, Ru laidOut (by kernel_rfl) (by kernel_rfl) Tryz.underlying4 rfl hW' rfl hb⟩

noncomputable def FR (os : Os) : World :=
  World.laidAll Tryz.prog os Rows.opsReadRow.laid
theorem Ry (os : Os) : laidMet Tryz.prog Rows.opsReadRow.laid ((FR os).forCall (fun _ _ => 0) ⟨#[], #[.string ⟨#[]⟩], []⟩).memory :=
  laidMet_laidAll _ (by kernel_rfl) (by kernel_rfl)
theorem reads (os : Os) {H : Type} (enc : TypeId × Value → H) : ∃ places, DataW.whole enc Tryz.prog ((FR os).forCall (fun _ _ => 0) ⟨#[], #[.string ⟨#[]⟩], []⟩).memory Tryz.f3.params.toList Rows.opsReadSpec.vars false #[.string ⟨#[]⟩].toList 8 = some ([.lit (.string [])], [], places) :=
  ⟨[], by kernel_rfl⟩

set_option maxRecDepth 100000 in
theorem lifted (os : Os) (started : os.Started) (H : Type) (enc : TypeId × Value → H) (F : Stop.Interp) :
    ReturnsInHanded {} Tryz.checked os 3 .any ((OpenSpec.ofChange Rows.opsReadSpec).preRow enc Tryz.prog Tryz.f3 Rows.opsReadRow.domain false Rows.opsReadRow.laid) (((OpenSpec.ofChange Rows.opsReadSpec).at F).post enc Tryz.prog Tryz.f3 false true false false) := by
  obtain ⟨places, hx⟩ := reads os enc
  refine returnsInHanded_of_row (C := Tryz.checked) (s := OpenSpec.ofChange Rows.opsReadSpec) own started (by kernel_rfl) Tryz.func3
    (witness_row_atRef (enc := enc) (C := Tryz.checked) false (FR os) #[.string ⟨#[]⟩] (World.laidAll_os _ _ _) (by kernel_rfl) (by kernel_rfl) (by kernel_rfl)
      (OpenSpec.preRow_of_cond 8 hx (by kernel_rfl) (fun k hk => by cases hk) (by kernel_rfl) (Ry os))) ?_
  intro W base args ds gs before hval hW _ _ _ hL _ _
  exact Sz H enc W base args ds gs before hval hW hL
theorem said : Rows.OpsReadSaid :=
  OpenClaim.holds_of_cond 3 Tryz.f3 rfl rfl rfl rfl rfl rfl rfl ⟨rfl, rfl, rfl, rfl, rfl⟩ rfl rfl rfl rfl rfl (by kernel_rfl) Tryz.func3 closed
    (of_decide_eq_true (by kernel_rfl)) (by unfold Func.isWrapper; first | (rw [if_pos (by decide +kernel)]; kernel_rfl) | (rw [if_neg (by decide +kernel)]; exact ⟨rfl, rfl⟩))
    (fun os started H enc _ F => by rw [OpenClaim.pre_eq_preRow]; exact lifted os started H enc F)
theorem plain (f : FuncId) (fn : Func) (hf : Tryz.pinned.checked.prog.funcNamed "foliant/foliantlaw43.OpsRead" = some f) (hfn : Tryz.pinned.checked.prog.funcs[f]? = some fn) :
    true = Tryz.pinned.checked.prog.looks [] ∧ ∀ (j : Nat) t, fn.params[j]? = some t → Tryz.pinned.checked.prog.wantsStandIn t = false := by
  obtain rfl : f = 3 := Option.some.inj ((show Tryz.prog.funcNamed "foliant/foliantlaw43.OpsRead" = some 3 by kernel_rfl).symm.trans hf) |>.symm
  obtain rfl : fn = Tryz.f3 := (Option.some.inj (Tryz.func3.symm.trans hfn)).symm
  refine ⟨by kernel_rfl, fun j t ht => ?_⟩
  rw [Tryz.params3] at ht
  have hall : #[9].all (fun t => !(Tryz.prog.wantsStandIn t)) = true := by kernel_rfl
  have := Array.all_eq_true_iff_forall_mem.1 hall t (Array.mem_of_getElem? ht)
  show Tryz.prog.wantsStandIn t = false
  simpa using this
end RowOpsRead
/-- THE CARD. -/
theorem opsRead_card : Rows.OpsReadCardSaid :=
  Claim7.holds_tied_plain_at .later [] _ _ _ _ RowOpsRead.said (fun _ h => by cases h) (by kernel_rfl) (fun _ h => by cases h) opsRead_row_tie rfl ⟨rfl, rfl⟩ (by kernel_rfl) rfl RowOpsRead.plain (by kernel_rfl)
end Go.Proofs.YtoofficgclghoaaGreatDoor
