/- The row and the card of foliantlaw16.FilterEncodes: printed by law.py. -/
import Derived.Test.YtlipjfcbjemicaaGreatDoorMfnblbeie
import Derived.Test.YtlipjfcbjemicaaGreatDoorMccmgjogj
import Derived.Test.YtlipjfcbjemicaaGreatDoorMaihepbpi
import Derived.Test.YtlipjfcbjemicaaGreatDoorMmaoipmob
import Derived.Test.YtlipjfcbjemicaaGreatDoorMmnbgfboh
import Derived.Test.YtlipjfcbjemicaaGreatDoorMilelddji
import Derived.Test.YtlipjfcbjemicaaGreatDoorMkkbpbeon
import Derived.Test.YtlipjfcbjemicaaGreatDoorMginmiicb
import Derived.Test.YtlipjfcbjemicaaGreatDoorMoaagmcam
import Derived.Test.YtlipjfcbjemicaaGreatDoorMeoalefmg
import Derived.Test.YtlipjfcbjemicaaGreatDoorCards
import Derived.Test.YtlipjfcbjemicaaGreatDoorTie
import Derived.Test.YtlipjfcbjemicaaGreatDoorRowFFilterEncodes
import Derived.Test.YtlipjfcbjemicaaGreatDoorRowFGFilterEncodes
namespace Go.Proofs.YtlipjfcbjemicaaGreatDoor
set_option linter.unusedVariables false
set_option linter.unusedSimpArgs false
set_option linter.defProp false
namespace RowFilterEncodes
open Eng Go.ChangeShapes Go.WideShapes Go.ChangeAt Go.RowKit
open Go.ChangeMaps (open_string shut_string)
set_option linter.unusedVariables false

theorem own : ownKnob Tryz.prog.godebug = none := by kernel_rfl
theorem laidOut : laidOutB Tryz.prog = true := by kernel_rfl
set_option maxRecDepth 100000 in
theorem ZP (H : Type) (enc : TypeId × Value → H) (W : World) (base : Nat) (args : Array Value) (ds gs : List (DataW H)) (before : List MemPlace)
    (hval : ∀ (j : Nat) t v, Tryz.f5.params[j]? = some t → args[j]? = some v → Value.okWide Tryz.prog W .any base t v)
    (hW : DataW.Whole enc Tryz.prog Tryz.f5.params.toList Rows.filterEncodesSpec.vars false W args.toList ds gs before) (hL : laidMet Tryz.prog Rows.filterEncodesUptoRow.laid W) (hk : Rows.uptoSmall H (ds ++ gs) = true) :
    Calls Tryz.prog 5 args W fun e W' => ∃ v, e = .returned v ∧ Rows.filterEncodesSpec.post enc Tryz.prog Tryz.f5 false true false false W args v W' := by
  have hW' := hW
  obtain ⟨p, q, hA0, hV, rfl, hfz, hnd⟩ := hW
  have hA : DataW.TrodAll enc Tryz.prog W 0 (fun _ => true) true Tryz.f5.params.toList args.toList ds p := hA0
  rw [Tryz.params5] at hA hval
  obtain ⟨v0, vs0, d0, ds0, p0, q0, hargs, rfl, rfl, k0, r0⟩ := trodAll_cons hA
  obtain ⟨v1, vs1, d1, ds1, p1, q1, hvs1, rfl, rfl, k1, r1⟩ := trodAll_cons r0
  obtain ⟨hnil, rfl, rfl⟩ := trodAll_nil r1
  subst hnil
  subst hvs1
  obtain rfl : args = #[v0, v1] := by cases args; simp_all
  obtain ⟨rfl, rfl⟩ := trodVars_none hV
  obtain ⟨o0, ho0, hb0⟩ := agL (hval 0 25 v0 rfl rfl) k0
  obtain ⟨ns1, pl1, vn1, vp1, dt1, rfl, hs1, hp1⟩ := WJ (hval 1 42 v1 rfl rfl) k1
  clear hA0
  simp only [atX, auI] at hW' hk
  have hod : Od (Mem.all W) := agJ (Lib.tabIs_of_head (g := 2) (by kernel_rfl) (by kernel_rfl) Tryz.underlying308 auQ (by kernel_rfl) (by kernel_rfl) hL)
  have hrp : Rp (Mem.all W) := ahV (Cu hL)
  have hpw : Pws (Mem.all W) := aaC (Lib.tabIs_of_head (g := 0) (by kernel_rfl) (by kernel_rfl) Tryz.underlying197 aAa (by kernel_rfl) (by kernel_rfl) (Cu (Cu hL)))
  have walk : Ret Tryz.prog 5 #[v0, asV vn1 vp1 dt1] W (fun v w' => v = .bool true ∧ Below W.heap.size W w') := filterEncodes_row o0 v0 vn1 vp1 ns1 pl1 dt1 W hrp hod hpw ho0 (by have := alL hk; omega) hs1 hp1
  refine Calls.mono walk ?_
  rintro e W' ⟨v, rfl, rfl, hb⟩
  exact ⟨_, rfl, abM laidOut (by kernel_rfl) (by kernel_rfl) Tryz.underlying4 rfl hW' rfl hb⟩

noncomputable def Kt (os : Os) : World :=
  (To (aiN (To (World.holding Tryz.prog os ⟨#[], #[], []⟩) 2 (akK Rows.laid_foliant_inflate_order)) 3) 0 (akK Rows.laid_foliant_ascii_powers))
theorem ZG (os : Os) : laidMet Tryz.prog Rows.filterEncodesUptoRow.laid ((Kt os).forCall (fun _ _ => 0) ⟨#[], #[.agg #[.int .i64 0, .int .i64 0, .int .i64 0, .string ⟨#[]⟩, .slice none 0 0, .slice none 0 0], .agg #[.slice none 0 0, .slice none 0 0, .string ⟨#[]⟩]], []⟩).memory :=
  laidMet_of_run' 8 (by kernel_rfl) (by kernel_rfl)
theorem reads (os : Os) {H : Type} (enc : TypeId × Value → H) : ∃ places, DataW.whole enc Tryz.prog ((Kt os).forCall (fun _ _ => 0) ⟨#[], #[.agg #[.int .i64 0, .int .i64 0, .int .i64 0, .string ⟨#[]⟩, .slice none 0 0, .slice none 0 0], .agg #[.slice none 0 0, .slice none 0 0, .string ⟨#[]⟩]], []⟩).memory Tryz.f5.params.toList Rows.filterEncodesSpec.vars false #[.agg #[.int .i64 0, .int .i64 0, .int .i64 0, .string ⟨#[]⟩, .slice none 0 0, .slice none 0 0], .agg #[.slice none 0 0, .slice none 0 0, .string ⟨#[]⟩]].toList 8 = some ([.agg [.lit (.int .i64 0), .lit (.int .i64 0), .lit (.int .i64 0), .lit (.string []), .nil, .nil], .agg [.nil, .nil, .lit (.string [])]], [], places) :=
  ⟨[], by kernel_rfl⟩

set_option maxRecDepth 100000 in
theorem lifted (os : Os) (started : os.Started) (H : Type) (enc : TypeId × Value → H) (F : Stop.Interp) :
    ReturnsInHanded {} Tryz.checked os 5 .any ((Rows.OpenSpec.upto Rows.filterEncodesSpec).preRow enc Tryz.prog Tryz.f5 Rows.filterEncodesUptoRow.domain false Rows.filterEncodesUptoRow.laid) (((Rows.OpenSpec.upto Rows.filterEncodesSpec).at F).post enc Tryz.prog Tryz.f5 false true false false) := by
  obtain ⟨places, hx⟩ := reads os enc
  refine returnsInHanded_of_row (C := Tryz.checked) (s := Rows.OpenSpec.upto Rows.filterEncodesSpec) own started (by kernel_rfl) Tryz.func5
    (witness_row_at (enc := enc) (C := Tryz.checked) false (Kt os) #[.agg #[.int .i64 0, .int .i64 0, .int .i64 0, .string ⟨#[]⟩, .slice none 0 0, .slice none 0 0], .agg #[.slice none 0 0, .slice none 0 0, .string ⟨#[]⟩]] rfl (by kernel_rfl) (by kernel_rfl) (by kernel_rfl)
      (OpenSpec.preRow_of_cond 8 hx (by kernel_rfl) (fun k hk => by cases hk; kernel_rfl) (by kernel_rfl) (ZG os))) ?_
  intro W base args ds gs before hval hW _ hcond _ hL _ _
  exact ZP H enc W base args ds gs before hval hW hL (hcond _ rfl)
theorem said : Rows.FilterEncodesUptoSaid :=
  OpenClaim.holds_of_cond 5 Tryz.f5 rfl rfl rfl rfl rfl rfl rfl ⟨rfl, rfl, rfl, rfl, rfl⟩ rfl rfl rfl rfl rfl (by kernel_rfl) Tryz.func5 closed
    (atQ (by kernel_rfl)) (by unfold Func.isWrapper; first | (rw [asU (by decide +kernel)]; kernel_rfl) | (rw [asT (by decide +kernel)]; exact ⟨rfl, rfl⟩))
    (fun os started H enc _ F => by rw [OpenClaim.pre_eq_preRow]; exact lifted os started H enc F)
theorem plain (f : FuncId) (fn : Func) (hf : Tryz.pinned.checked.prog.funcNamed "foliant/foliantlaw16.FilterEncodes" = some f) (hfn : Tryz.pinned.checked.prog.funcs[f]? = some fn) :
    true = Tryz.pinned.checked.prog.looks [] ∧ ∀ (j : Nat) t, fn.params[j]? = some t → Tryz.pinned.checked.prog.wantsStandIn t = false := by
  obtain rfl : f = 5 := awT ((show Tryz.prog.funcNamed "foliant/foliantlaw16.FilterEncodes" = some 5 by kernel_rfl).symm.trans hf) |>.symm
  obtain rfl : fn = Tryz.f5 := (awT (Tryz.func5.symm.trans hfn)).symm
  refine ⟨by kernel_rfl, fun j t ht => ?_⟩
  rw [Tryz.params5] at ht
  have hall : #[25, 42].all (fun t => !(Tryz.prog.wantsStandIn t)) = true := by kernel_rfl
  have := Array.all_eq_true_iff_forall_mem.1 hall t (azD ht)
  show Tryz.prog.wantsStandIn t = false
  simpa using this
end RowFilterEncodes
/-- THE CARD. -/
theorem filterEncodes_card : Rows.FilterEncodesUptoCardSaid :=
  Claim7.holds_tied_plain_at .later [] _ _ _ _ RowFilterEncodes.said (fun _ h => by cases h) RowFilterEncodes.wf (fun _ h => by cases h) filterEncodesUpto_row_tie rfl ⟨rfl, rfl⟩ (by kernel_rfl) rfl RowFilterEncodes.plain RowFilterEncodes.goes
end Go.Proofs.YtlipjfcbjemicaaGreatDoor
