/- The row and the card of foliantlaw08.BodyTells: printed by law.py. -/
import Derived.Test.YtkejpieaafeblaaGreatDoorMfgajbapg
import Derived.Test.YtkejpieaafeblaaGreatDoorMjedaldak
import Derived.Test.YtkejpieaafeblaaGreatDoorMchjklpnl
import Derived.Test.YtkejpieaafeblaaGreatDoorMfpdmcfll
import Derived.Test.YtkejpieaafeblaaGreatDoorMlllolngj
import Derived.Test.YtkejpieaafeblaaGreatDoorMdjkagiip
import Derived.Test.YtkejpieaafeblaaGreatDoorMjgmdnbfo
import Derived.Test.YtkejpieaafeblaaGreatDoorMmoehogjf
import Derived.Test.YtkejpieaafeblaaGreatDoorCards
import Derived.Test.YtkejpieaafeblaaGreatDoorTie
import Derived.Test.YtkejpieaafeblaaGreatDoorRowFBodyTells
import Derived.Lay
import Derived.Deep.DeepWitnessRowRef
namespace Go.Proofs.YtkejpieaafeblaaGreatDoor
set_option linter.unusedVariables false
set_option linter.unusedSimpArgs false
set_option linter.defProp false
namespace RowBodyTells
open Eng Go.ChangeShapes Go.WideShapes Go.ChangeAt Go.RowKit
open Go.ChangeMaps (open_string shut_string)
set_option linter.unusedVariables false

theorem own : ownKnob Tryz.prog.godebug = none := by kernel_rfl
theorem laidOut : laidOutB Tryz.prog = true := by kernel_rfl
set_option maxRecDepth 100000 in
theorem SY (H : Type) (enc : TypeId × Value → H) (W : World) (base : Nat) (args : Array Value) (ds gs : List (DataW H)) (before : List MemPlace)
    (hval : ∀ (j : Nat) t v, Tryz.f3.params[j]? = some t → args[j]? = some v → Value.okWide Tryz.prog W .any base t v)
    (hW : DataW.Whole enc Tryz.prog Tryz.f3.params.toList Rows.bodyTellsSpec.vars false W args.toList ds gs before) (hL : laidMet Tryz.prog Rows.bodyTellsUptoRow.laid W) (hk : Rows.uptoSmall H (ds ++ gs) = true) :
    Calls Tryz.prog 3 args W fun e W' => ∃ v, e = .returned v ∧ Rows.bodyTellsSpec.post enc Tryz.prog Tryz.f3 false true false false W args v W' := by
  have hW' := hW
  obtain ⟨p, q, hA0, hV, rfl, hfz, hnd⟩ := hW
  have hA : DataW.TrodAll enc Tryz.prog W 0 (fun _ => true) true Tryz.f3.params.toList args.toList ds p := hA0
  rw [Tryz.params3] at hA hval
  obtain ⟨v0, vs0, d0, ds0, p0, q0, hargs, rfl, rfl, k0, r0⟩ := trodAll_cons hA
  obtain ⟨v1, vs1, d1, ds1, p1, q1, hvs1, rfl, rfl, k1, r1⟩ := trodAll_cons r0
  obtain ⟨v2, vs2, d2, ds2, p2, q2, hvs2, rfl, rfl, k2, r2⟩ := trodAll_cons r1
  obtain ⟨v3, vs3, d3, ds3, p3, q3, hvs3, rfl, rfl, k3, r3⟩ := trodAll_cons r2
  obtain ⟨hnil, rfl, rfl⟩ := trodAll_nil r3
  subst hnil
  subst hvs3
  subst hvs2
  subst hvs1
  obtain rfl : args = #[v0, v1, v2, v3] := by cases args; simp_all
  obtain ⟨rfl, rfl⟩ := trodVars_none hV
  obtain ⟨s0, rfl, rfl, rfl, hs0⟩ := open_string Ym (hval 0 9 v0 rfl rfl) k0
  have h0 : s0.data.toList.length ≤ 9223372036854775807 := by rw [← Lib.size_eq]; exact hs0
  obtain ⟨a1, rfl, rfl, rfl, hw1⟩ := open_int YR (hval 1 3 v1 rfl rfl) k1
  have h1 := Cu hw1
  obtain ⟨a2, rfl, rfl, rfl, hw2⟩ := open_int YR (hval 2 3 v2 rfl rfl) k2
  have h2 := Cu hw2
  obtain ⟨i3, vk3, vc3, rfl, hv3, hw3⟩ := Ua (hval 3 27 v3 rfl rfl) k3
  clear hA0
  simp only [YQ, Y6] at hW' hk
  have ht : Tb W := Lib.tabIs_of_head (g := 0) (by kernel_rfl) (by kernel_rfl) Tryz.underlying214 acI (by kernel_rfl) (by kernel_rfl) (FZ (FZ hL))
  have walk : Ret Tryz.prog 3 #[.string s0, .int .i64 a1, .int .i64 a2, itV i3 vk3 vc3] W (fun v w' => v = .bool true ∧ Below W.heap.size W w') := JX s0.data.toList a1 a2 i3 vk3 vc3 W ht hv3 (by have := V5 hk; omega)
  refine Calls.mono walk ?_
  rintro e W' ⟨v, rfl, rfl, hb⟩
  exact ⟨_, rfl, SZ laidOut (by kernel_rfl) (by kernel_rfl) ZG rfl hW' rfl hb⟩

noncomputable def HC (os : Os) : World :=
  World.laidAll Tryz.prog os Rows.bodyTellsUptoRow.laid
theorem Sk (os : Os) : laidMet Tryz.prog Rows.bodyTellsUptoRow.laid ((HC os).forCall (fun _ _ => 0) ⟨#[], #[.string ⟨#[]⟩, .int .i64 0, .int .i64 0, .agg #[.int .i64 0, .int .i64 0, .int .i64 0, .int .i64 0, .int .i64 0, .string ⟨#[]⟩, .slice none 0 0, .slice none 0 0]], []⟩).memory :=
  laidMet_laidAll _ (by kernel_rfl) (by kernel_rfl)
theorem reads (os : Os) {H : Type} (enc : TypeId × Value → H) : ∃ places, DataW.whole enc Tryz.prog ((HC os).forCall (fun _ _ => 0) ⟨#[], #[.string ⟨#[]⟩, .int .i64 0, .int .i64 0, .agg #[.int .i64 0, .int .i64 0, .int .i64 0, .int .i64 0, .int .i64 0, .string ⟨#[]⟩, .slice none 0 0, .slice none 0 0]], []⟩).memory Tryz.f3.params.toList Rows.bodyTellsSpec.vars false #[.string ⟨#[]⟩, .int .i64 0, .int .i64 0, .agg #[.int .i64 0, .int .i64 0, .int .i64 0, .int .i64 0, .int .i64 0, .string ⟨#[]⟩, .slice none 0 0, .slice none 0 0]].toList 8 = some ([.lit (.string []), .lit (.int .i64 0), .lit (.int .i64 0), .agg [.lit (.int .i64 0), .lit (.int .i64 0), .agg [.lit (.int .i64 0), .lit (.int .i64 0), .lit (.int .i64 0), .lit (.string []), .nil, .nil]]], [], places) :=
  ⟨[], by kernel_rfl⟩

set_option maxRecDepth 100000 in
theorem lifted (os : Os) (started : os.Started) (H : Type) (enc : TypeId × Value → H) (F : Stop.Interp) :
    ReturnsInHanded {} Tryz.checked os 3 .any ((Rows.OpenSpec.upto Rows.bodyTellsSpec).preRow enc Tryz.prog Tryz.f3 Rows.bodyTellsUptoRow.domain false Rows.bodyTellsUptoRow.laid) (((Rows.OpenSpec.upto Rows.bodyTellsSpec).at F).post enc Tryz.prog Tryz.f3 false true false false) := by
  obtain ⟨places, hx⟩ := reads os enc
  refine returnsInHanded_of_row (C := Tryz.checked) (s := Rows.OpenSpec.upto Rows.bodyTellsSpec) own started (by kernel_rfl) Tryz.func3
    (witness_row_atRef (enc := enc) (C := Tryz.checked) false (HC os) #[.string ⟨#[]⟩, .int .i64 0, .int .i64 0, .agg #[.int .i64 0, .int .i64 0, .int .i64 0, .int .i64 0, .int .i64 0, .string ⟨#[]⟩, .slice none 0 0, .slice none 0 0]] (World.laidAll_os _ _ _) (by kernel_rfl) (by kernel_rfl) (by kernel_rfl)
      (OpenSpec.preRow_of_cond 8 hx (by kernel_rfl) (fun k hk => by cases hk; kernel_rfl) (by kernel_rfl) (Sk os))) ?_
  intro W base args ds gs before hval hW _ hcond _ hL _ _
  exact SY H enc W base args ds gs before hval hW hL (hcond _ rfl)
theorem said : Rows.BodyTellsUptoSaid :=
  OpenClaim.holds_of_cond 3 Tryz.f3 rfl rfl rfl rfl rfl rfl rfl ⟨rfl, rfl, rfl, rfl, rfl⟩ rfl rfl rfl rfl rfl (by kernel_rfl) Tryz.func3 closed
    (YF (by kernel_rfl)) (by unfold Func.isWrapper; first | (rw [Yh (by decide +kernel)]; kernel_rfl) | (rw [Yg (by decide +kernel)]; exact ⟨rfl, rfl⟩))
    (fun os started H enc _ F => by rw [OpenClaim.pre_eq_preRow]; exact lifted os started H enc F)
theorem plain (f : FuncId) (fn : Func) (hf : Tryz.pinned.checked.prog.funcNamed "foliant/foliantlaw08.BodyTells" = some f) (hfn : Tryz.pinned.checked.prog.funcs[f]? = some fn) :
    true = Tryz.pinned.checked.prog.looks [] ∧ ∀ (j : Nat) t, fn.params[j]? = some t → Tryz.pinned.checked.prog.wantsStandIn t = false := by
  obtain rfl : f = 3 := ZT ((show Tryz.prog.funcNamed "foliant/foliantlaw08.BodyTells" = some 3 by kernel_rfl).symm.trans hf) |>.symm
  obtain rfl : fn = Tryz.f3 := (ZT (Tryz.func3.symm.trans hfn)).symm
  refine ⟨by kernel_rfl, fun j t ht => ?_⟩
  rw [Tryz.params3] at ht
  have hall : #[9, 3, 3, 27].all (fun t => !(Tryz.prog.wantsStandIn t)) = true := by kernel_rfl
  have := Array.all_eq_true_iff_forall_mem.1 hall t (aaD ht)
  show Tryz.prog.wantsStandIn t = false
  simpa using this
end RowBodyTells
/-- THE CARD. -/
theorem bodyTells_card : Rows.BodyTellsUptoCardSaid :=
  Claim7.holds_tied_plain_at .later [] _ _ _ _ RowBodyTells.said (fun _ h => by cases h) (by kernel_rfl) (fun _ h => by cases h) bodyTellsUpto_row_tie rfl ⟨rfl, rfl⟩ (by kernel_rfl) rfl RowBodyTells.plain (by kernel_rfl)
end Go.Proofs.YtkejpieaafeblaaGreatDoor
