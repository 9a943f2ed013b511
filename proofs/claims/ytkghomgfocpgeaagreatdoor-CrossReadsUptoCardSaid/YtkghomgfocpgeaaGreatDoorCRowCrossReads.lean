/- The row and the card of foliantlaw20.CrossReads: printed by law.py. -/
import Derived.Test.YtkghomgfocpgeaaGreatDoorMhfboacoo
import Derived.Test.YtkghomgfocpgeaaGreatDoorMjjaocoba
import Derived.Test.YtkghomgfocpgeaaGreatDoorMhmkgopja
import Derived.Test.YtkghomgfocpgeaaGreatDoorMgjbmoekn
import Derived.Test.YtkghomgfocpgeaaGreatDoorMmniofnla
import Derived.Test.YtkghomgfocpgeaaGreatDoorMlcgdoapm
import Derived.Test.YtkghomgfocpgeaaGreatDoorMpfldklcg
import Derived.Test.YtkghomgfocpgeaaGreatDoorMlkccflpp
import Derived.Test.YtkghomgfocpgeaaGreatDoorMppdaejam
import Derived.Test.YtkghomgfocpgeaaGreatDoorMichkamaa
import Derived.Test.YtkghomgfocpgeaaGreatDoorCards
import Derived.Test.YtkghomgfocpgeaaGreatDoorTie
import Derived.Test.YtkghomgfocpgeaaGreatDoorRowFCrossReads
import Derived.Test.YtkghomgfocpgeaaGreatDoorRowFGCrossReads
namespace Go.Proofs.YtkghomgfocpgeaaGreatDoor
set_option linter.unusedVariables false
set_option linter.unusedSimpArgs false
set_option linter.defProp false
namespace RowCrossReads
open Eng Go.ChangeShapes Go.WideShapes Go.ChangeAt Go.RowKit
open Go.ChangeMaps (open_string shut_string)
set_option linter.unusedVariables false

theorem own : ownKnob Tryz.prog.godebug = none := by kernel_rfl
theorem laidOut : laidOutB Tryz.prog = true := by kernel_rfl
set_option maxRecDepth 100000 in
theorem acO (H : Type) (enc : TypeId × Value → H) (W : World) (base : Nat) (args : Array Value) (ds gs : List (DataW H)) (before : List MemPlace)
    (hval : ∀ (j : Nat) t v, Tryz.f3.params[j]? = some t → args[j]? = some v → Value.okWide Tryz.prog W .any base t v)
    (hW : DataW.Whole enc Tryz.prog Tryz.f3.params.toList Rows.crossReadsSpec.vars false W args.toList ds gs before) (hL : laidMet Tryz.prog Rows.crossReadsUptoRow.laid W) (hk : Rows.uptoSmall H (ds ++ gs) = true) :
    Calls Tryz.prog 3 args W fun e W' => ∃ v, e = .returned v ∧ Rows.crossReadsSpec.post enc Tryz.prog Tryz.f3 false true false false W args v W' := by
  have hW' := hW
  obtain ⟨p, q, hA0, hV, rfl, hfz, hnd⟩ := hW
  have hA : DataW.TrodAll enc Tryz.prog W 0 (fun _ => true) true Tryz.f3.params.toList args.toList ds p := hA0
  rw [Tryz.params3] at hA hval
  obtain ⟨v0, vs0, d0, ds0, p0, q0, hargs, rfl, rfl, k0, r0⟩ := trodAll_cons hA
  obtain ⟨v1, vs1, d1, ds1, p1, q1, hvs1, rfl, rfl, k1, r1⟩ := trodAll_cons r0
  obtain ⟨hnil, rfl, rfl⟩ := trodAll_nil r1
  subst hnil
  subst hvs1
  obtain rfl : args = #[v0, v1] := by cases args; simp_all
  obtain ⟨rfl, rfl⟩ := trodVars_none hV
  obtain ⟨i0, vk0, vc0, rfl, hv0, hw0⟩ := adO (hval 0 27 v0 rfl rfl) k0
  obtain ⟨a1, rfl, rfl, rfl, hw1⟩ := open_int awM (hval 1 3 v1 rfl rfl) k1
  have h1 := MX hw1
  clear hA0
  simp only [awF, awW] at hW' hk
  have hod : Od (Mem.all W) := ajF (Lib.tabIs_of_head (g := 2) (by kernel_rfl) (by kernel_rfl) Tryz.underlying288 awM (by kernel_rfl) (by kernel_rfl) hL)
  have hrp : Rp (Mem.all W) := ajU (CR hL)
  have hpw : Pws (Mem.all W) := acM (Lib.tabIs_of_head (g := 0) (by kernel_rfl) (by kernel_rfl) Tryz.underlying192 aAw (by kernel_rfl) (by kernel_rfl) (CR (CR hL)))
  have walk : Ret Tryz.prog 3 #[itV i0 vk0 vc0, .int .i64 a1] W (fun v w' => v = .bool true ∧ Below W.heap.size W w') := crossReads_row i0 a1 vk0 vc0 W hrp hod hpw hv0 (by have := arI hk; omega)
  refine Calls.mono walk ?_
  rintro e W' ⟨v, rfl, rfl, hb⟩
  exact ⟨_, rfl, adR laidOut (by kernel_rfl) (by kernel_rfl) Tryz.underlying4 rfl hW' rfl hb⟩

noncomputable def MP (os : Os) : World :=
  (TB (ahP (TB (World.holding Tryz.prog os ⟨#[], #[], []⟩) 2 (anB Rows.laid_foliant_inflate_order)) 3) 0 (anB Rows.laid_foliant_ascii_powers))
theorem aaB (os : Os) : laidMet Tryz.prog Rows.crossReadsUptoRow.laid ((MP os).forCall (fun _ _ => 0) ⟨#[], #[.agg #[.int .i64 0, .int .i64 0, .int .i64 0, .int .i64 0, .int .i64 0, .string ⟨#[]⟩, .slice none 0 0, .slice none 0 0], .int .i64 0], []⟩).memory :=
  laidMet_of_run' 8 (by kernel_rfl) (by kernel_rfl)
theorem reads (os : Os) {H : Type} (enc : TypeId × Value → H) : ∃ places, DataW.whole enc Tryz.prog ((MP os).forCall (fun _ _ => 0) ⟨#[], #[.agg #[.int .i64 0, .int .i64 0, .int .i64 0, .int .i64 0, .int .i64 0, .string ⟨#[]⟩, .slice none 0 0, .slice none 0 0], .int .i64 0], []⟩).memory Tryz.f3.params.toList Rows.crossReadsSpec.vars false #[.agg #[.int .i64 0, .int .i64 0, .int .i64 0, .int .i64 0, .int .i64 0, .string ⟨#[]⟩, .slice none 0 0, .slice none 0 0], .int .i64 0].toList 8 = some ([.agg [.lit (.int .i64 0), .lit (.int .i64 0), .agg [.lit (.int .i64 0), .lit (.int .i64 0), .lit (.int .i64 0), .lit (.string []), .nil, .nil]], .lit (.int .i64 0)], [], places) :=
  ⟨[], by kernel_rfl⟩

set_option maxRecDepth 100000 in
theorem lifted (os : Os) (started : os.Started) (H : Type) (enc : TypeId × Value → H) (F : Stop.Interp) :
    ReturnsInHanded {} Tryz.checked os 3 .any ((Rows.OpenSpec.upto Rows.crossReadsSpec).preRow enc Tryz.prog Tryz.f3 Rows.crossReadsUptoRow.domain false Rows.crossReadsUptoRow.laid) (((Rows.OpenSpec.upto Rows.crossReadsSpec).at F).post enc Tryz.prog Tryz.f3 false true false false) := by
  obtain ⟨places, hx⟩ := reads os enc
  refine returnsInHanded_of_row (C := Tryz.checked) (s := Rows.OpenSpec.upto Rows.crossReadsSpec) own started (by kernel_rfl) Tryz.func3
    (witness_row_at (enc := enc) (C := Tryz.checked) false (MP os) #[.agg #[.int .i64 0, .int .i64 0, .int .i64 0, .int .i64 0, .int .i64 0, .string ⟨#[]⟩, .slice none 0 0, .slice none 0 0], .int .i64 0] rfl (by kernel_rfl) (by kernel_rfl) (by kernel_rfl)
      (OpenSpec.preRow_of_cond 8 hx (by kernel_rfl) (fun k hk => by cases hk; kernel_rfl) (by kernel_rfl) (aaB os))) ?_
  intro W base args ds gs before hval hW _ hcond _ hL _ _
  exact acO H enc W base args ds gs before hval hW hL (hcond _ rfl)
theorem said : Rows.CrossReadsUptoSaid :=
  OpenClaim.holds_of_cond 3 Tryz.f3 rfl rfl rfl rfl rfl rfl rfl ⟨rfl, rfl, rfl, rfl, rfl⟩ rfl rfl rfl rfl rfl (by kernel_rfl) Tryz.func3 closed
    (avG (by kernel_rfl)) (by unfold Func.isWrapper; first | (rw [auP (by decide +kernel)]; kernel_rfl) | (rw [auO (by decide +kernel)]; exact ⟨rfl, rfl⟩))
    (fun os started H enc _ F => by rw [OpenClaim.pre_eq_preRow]; exact lifted os started H enc F)
theorem plain (f : FuncId) (fn : Func) (hf : Tryz.pinned.checked.prog.funcNamed "foliant/foliantlaw20.CrossReads" = some f) (hfn : Tryz.pinned.checked.prog.funcs[f]? = some fn) :
    true = Tryz.pinned.checked.prog.looks [] ∧ ∀ (j : Nat) t, fn.params[j]? = some t → Tryz.pinned.checked.prog.wantsStandIn t = false := by
  obtain rfl : f = 3 := ayB ((show Tryz.prog.funcNamed "foliant/foliantlaw20.CrossReads" = some 3 by kernel_rfl).symm.trans hf) |>.symm
  obtain rfl : fn = Tryz.f3 := (ayB (Tryz.func3.symm.trans hfn)).symm
  refine ⟨by kernel_rfl, fun j t ht => ?_⟩
  rw [Tryz.params3] at ht
  have hall : #[27, 3].all (fun t => !(Tryz.prog.wantsStandIn t)) = true := by kernel_rfl
  have := Array.all_eq_true_iff_forall_mem.1 hall t (aAd ht)
  show Tryz.prog.wantsStandIn t = false
  simpa using this
end RowCrossReads
/-- THE CARD. -/
theorem crossReads_card : Rows.CrossReadsUptoCardSaid :=
  Claim7.holds_tied_plain_at .later [] _ _ _ _ RowCrossReads.said (fun _ h => by cases h) RowCrossReads.wf (fun _ h => by cases h) crossReadsUpto_row_tie rfl ⟨rfl, rfl⟩ (by kernel_rfl) rfl RowCrossReads.plain RowCrossReads.goes
end Go.Proofs.YtkghomgfocpgeaaGreatDoor
