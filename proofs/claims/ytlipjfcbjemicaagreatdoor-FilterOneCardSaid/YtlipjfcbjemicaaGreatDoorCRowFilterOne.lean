/- The row and the card of foliantlaw16.FilterOne: printed by law.py. -/
import Derived.Test.YtlipjfcbjemicaaGreatDoorMbfgapega
import Derived.Test.YtlipjfcbjemicaaGreatDoorMpndboked
import Derived.Test.YtlipjfcbjemicaaGreatDoorMapghdbbi
import Derived.Test.YtlipjfcbjemicaaGreatDoorMfeimdbci
import Derived.Test.YtlipjfcbjemicaaGreatDoorMljflnkhf
import Derived.Test.YtlipjfcbjemicaaGreatDoorMphjkffjc
import Derived.Test.YtlipjfcbjemicaaGreatDoorMcpbkfgof
import Derived.Test.YtlipjfcbjemicaaGreatDoorMdgkoanba
import Derived.Test.YtlipjfcbjemicaaGreatDoorMgognhkgj
import Derived.Test.YtlipjfcbjemicaaGreatDoorMnopdnnml
import Derived.Test.YtlipjfcbjemicaaGreatDoorCards
import Derived.Test.YtlipjfcbjemicaaGreatDoorTie
import Derived.Test.YtlipjfcbjemicaaGreatDoorRowFFilterOne
import Derived.Test.YtlipjfcbjemicaaGreatDoorRowFGFilterOne
namespace Go.Proofs.YtlipjfcbjemicaaGreatDoor
set_option linter.unusedVariables false
set_option linter.unusedSimpArgs false
set_option linter.defProp false
namespace RowFilterOne
open Eng Go.ChangeShapes Go.WideShapes Go.ChangeAt Go.RowKit
open Go.ChangeMaps (open_string shut_string)
set_option linter.unusedVariables false

theorem own : ownKnob Tryz.prog.godebug = none := by kernel_rfl
theorem laidOut : laidOutB Tryz.prog = true := by kernel_rfl
set_option maxRecDepth 100000 in
theorem Zi (H : Type) (enc : TypeId × Value → H) (W : World) (base : Nat) (args : Array Value) (ds gs : List (DataW H)) (before : List MemPlace)
    (hval : ∀ (j : Nat) t v, Tryz.f4.params[j]? = some t → args[j]? = some v → Value.okWide Tryz.prog W .any base t v)
    (hW : DataW.Whole enc Tryz.prog Tryz.f4.params.toList Rows.filterOneSpec.vars false W args.toList ds gs before) (hL : laidMet Tryz.prog Rows.filterOneRow.laid W) :
    Calls Tryz.prog 4 args W fun e W' => ∃ v, e = .returned v ∧ Rows.filterOneSpec.post enc Tryz.prog Tryz.f4 false true false false W args v W' := by
  have hW' := hW
  obtain ⟨p, q, hA0, hV, rfl, hfz, hnd⟩ := hW
  have hA : DataW.TrodAll enc Tryz.prog W 0 (fun _ => true) true Tryz.f4.params.toList args.toList ds p := hA0
  rw [Tryz.params4] at hA hval
  obtain ⟨v0, vs0, d0, ds0, p0, q0, hargs, rfl, rfl, k0, r0⟩ := trodAll_cons hA
  obtain ⟨v1, vs1, d1, ds1, p1, q1, hvs1, rfl, rfl, k1, r1⟩ := trodAll_cons r0
  obtain ⟨v2, vs2, d2, ds2, p2, q2, hvs2, rfl, rfl, k2, r2⟩ := trodAll_cons r1
  obtain ⟨hnil, rfl, rfl⟩ := trodAll_nil r2
  subst hnil
  subst hvs2
  subst hvs1
  obtain rfl : args = #[v0, v1, v2] := by cases args; simp_all
  obtain ⟨rfl, rfl⟩ := trodVars_none hV
  obtain ⟨s0, rfl, rfl, rfl, hs0⟩ := open_string aoD (hval 0 9 v0 rfl rfl) k0
  have h0 : s0.data.toList.length ≤ 9223372036854775807 := by rw [← Lib.size_eq]; exact hs0
  obtain ⟨x1, rfl⟩ := Xb (hval 1 27 v1 rfl rfl) k1
  obtain ⟨s2, rfl, rfl, rfl, hs2⟩ := open_string aoD (hval 2 9 v2 rfl rfl) k2
  have h2 : s2.data.toList.length ≤ 9223372036854775807 := by rw [← Lib.size_eq]; exact hs2
  clear hA0
  simp only [aoV, apK] at hW'
  have hod : Od (Mem.all W) := adC (Lib.tabIs_of_head (g := 2) (by kernel_rfl) (by kernel_rfl) Tryz.underlying308 apH (by kernel_rfl) (by kernel_rfl) hL)
  have hrp : Rp (Mem.all W) := adS (Cg hL)
  have hpw : Pws (Mem.all W) := Yd (Lib.tabIs_of_head (g := 0) (by kernel_rfl) (by kernel_rfl) Tryz.underlying197 auB (by kernel_rfl) (by kernel_rfl) (Cg (Cg hL)))
  have walk : Ret Tryz.prog 4 #[.string s0, pmV x1, .string s2] W (fun v w' => v = .bool true ∧ Below W.heap.size W w') := filterOne_row s0.data.toList x1 s2.data.toList W hrp hod hpw
  refine Calls.mono walk ?_
  rintro e W' ⟨v, rfl, rfl, hb⟩
  exact ⟨_, rfl, Zz laidOut (by kernel_rfl) (by kernel_rfl) Tryz.underlying4 rfl hW' rfl hb⟩

noncomputable def I7 (os : Os) : World :=
  (Rx (adB (Rx (World.holding Tryz.prog os ⟨#[], #[], []⟩) 2 (agE Rows.laid_foliant_inflate_order)) 3) 0 (agE Rows.laid_foliant_ascii_powers))
theorem Zg (os : Os) : laidMet Tryz.prog Rows.filterOneRow.laid ((I7 os).forCall (fun _ _ => 0) ⟨#[], #[.string ⟨#[]⟩, .agg #[.int .i64 0, .int .i64 0, .int .i64 0], .string ⟨#[]⟩], []⟩).memory :=
  laidMet_of_run' 8 (by kernel_rfl) (by kernel_rfl)
theorem reads (os : Os) {H : Type} (enc : TypeId × Value → H) : ∃ places, DataW.whole enc Tryz.prog ((I7 os).forCall (fun _ _ => 0) ⟨#[], #[.string ⟨#[]⟩, .agg #[.int .i64 0, .int .i64 0, .int .i64 0], .string ⟨#[]⟩], []⟩).memory Tryz.f4.params.toList Rows.filterOneSpec.vars false #[.string ⟨#[]⟩, .agg #[.int .i64 0, .int .i64 0, .int .i64 0], .string ⟨#[]⟩].toList 8 = some ([.lit (.string []), .agg [.lit (.int .i64 0), .lit (.int .i64 0), .lit (.int .i64 0)], .lit (.string [])], [], places) :=
  ⟨[], by kernel_rfl⟩

set_option maxRecDepth 100000 in
theorem lifted (os : Os) (started : os.Started) (H : Type) (enc : TypeId × Value → H) (F : Stop.Interp) :
    ReturnsInHanded {} Tryz.checked os 4 .any ((OpenSpec.ofChange Rows.filterOneSpec).preRow enc Tryz.prog Tryz.f4 Rows.filterOneRow.domain false Rows.filterOneRow.laid) (((OpenSpec.ofChange Rows.filterOneSpec).at F).post enc Tryz.prog Tryz.f4 false true false false) := by
  obtain ⟨places, hx⟩ := reads os enc
  refine returnsInHanded_of_row (C := Tryz.checked) (s := OpenSpec.ofChange Rows.filterOneSpec) own started (by kernel_rfl) Tryz.func4
    (witness_row_at (enc := enc) (C := Tryz.checked) false (I7 os) #[.string ⟨#[]⟩, .agg #[.int .i64 0, .int .i64 0, .int .i64 0], .string ⟨#[]⟩] rfl (by kernel_rfl) (by kernel_rfl) (by kernel_rfl)
      (OpenSpec.preRow_of_cond 8 hx (by kernel_rfl) (fun k hk => by cases hk) (by kernel_rfl) (Zg os))) ?_
  intro W base args ds gs before hval hW _ _ _ hL _ _
  exact Zi H enc W base args ds gs before hval hW hL
theorem said : Rows.FilterOneSaid :=
  OpenClaim.holds_of_cond 4 Tryz.f4 rfl rfl rfl rfl rfl rfl rfl ⟨rfl, rfl, rfl, rfl, rfl⟩ rfl rfl rfl rfl rfl (by kernel_rfl) Tryz.func4 closed
    (aoU (by kernel_rfl)) (by unfold Func.isWrapper; first | (rw [anX (by decide +kernel)]; kernel_rfl) | (rw [anW (by decide +kernel)]; exact ⟨rfl, rfl⟩))
    (fun os started H enc _ F => by rw [OpenClaim.pre_eq_preRow]; exact lifted os started H enc F)
theorem plain (f : FuncId) (fn : Func) (hf : Tryz.pinned.checked.prog.funcNamed "foliant/foliantlaw16.FilterOne" = some f) (hfn : Tryz.pinned.checked.prog.funcs[f]? = some fn) :
    true = Tryz.pinned.checked.prog.looks [] ∧ ∀ (j : Nat) t, fn.params[j]? = some t → Tryz.pinned.checked.prog.wantsStandIn t = false := by
  obtain rfl : f = 4 := arH ((show Tryz.prog.funcNamed "foliant/foliantlaw16.FilterOne" = some 4 by kernel_rfl).symm.trans hf) |>.symm
  obtain rfl : fn = Tryz.f4 := (arH (Tryz.func4.symm.trans hfn)).symm
  refine ⟨by kernel_rfl, fun j t ht => ?_⟩
  rw [Tryz.params4] at ht
  have hall : #[9, 27, 9].all (fun t => !(Tryz.prog.wantsStandIn t)) = true := by kernel_rfl
  have := Array.all_eq_true_iff_forall_mem.1 hall t (atW ht)
  show Tryz.prog.wantsStandIn t = false
  simpa using this
end RowFilterOne
/-- THE CARD. -/
theorem filterOne_card : Rows.FilterOneCardSaid :=
  Claim7.holds_tied_plain_at .later [] _ _ _ _ RowFilterOne.said (fun _ h => by cases h) RowFilterOne.wf (fun _ h => by cases h) filterOne_row_tie rfl ⟨rfl, rfl⟩ (by kernel_rfl) rfl RowFilterOne.plain RowFilterOne.goes
end Go.Proofs.YtlipjfcbjemicaaGreatDoor
