/- The row and the card of foliantlaw16.FilterMakes: printed by law.py. -/
import Derived.Test.YtlipjfcbjemicaaGreatDoorMmogppjjb
import Derived.Test.YtlipjfcbjemicaaGreatDoorMmobppmkb
import Derived.Test.YtlipjfcbjemicaaGreatDoorMmflabinf
import Derived.Test.YtlipjfcbjemicaaGreatDoorMnegemnlf
import Derived.Test.YtlipjfcbjemicaaGreatDoorMnnoonhij
import Derived.Test.YtlipjfcbjemicaaGreatDoorMckkjeape
import Derived.Test.YtlipjfcbjemicaaGreatDoorMkampjacl
import Derived.Test.YtlipjfcbjemicaaGreatDoorMlmlibeig
import Derived.Test.YtlipjfcbjemicaaGreatDoorMaldkbnka
import Derived.Test.YtlipjfcbjemicaaGreatDoorCards
import Derived.Test.YtlipjfcbjemicaaGreatDoorTie
import Derived.Test.YtlipjfcbjemicaaGreatDoorRowFFilterMakes
import Derived.Test.YtlipjfcbjemicaaGreatDoorRowFGFilterMakes
namespace Go.Proofs.YtlipjfcbjemicaaGreatDoor
set_option linter.unusedVariables false
set_option linter.unusedSimpArgs false
set_option linter.defProp false
namespace RowFilterMakes
open Eng Go.ChangeShapes Go.WideShapes Go.ChangeAt Go.RowKit
open Go.ChangeMaps (open_string shut_string)
set_option linter.unusedVariables false

theorem own : ownKnob Tryz.prog.godebug = none := by kernel_rfl
theorem laidOut : laidOutB Tryz.prog = true := by kernel_rfl
set_option maxRecDepth 100000 in
theorem T6 (H : Type) (enc : TypeId × Value → H) (W : World) (base : Nat) (args : Array Value) (ds gs : List (DataW H)) (before : List MemPlace)
    (hval : ∀ (j : Nat) t v, Tryz.f6.params[j]? = some t → args[j]? = some v → Value.okWide Tryz.prog W .any base t v)
    (hW : DataW.Whole enc Tryz.prog Tryz.f6.params.toList Rows.filterMakesSpec.vars false W args.toList ds gs before) (hL : laidMet Tryz.prog Rows.filterMakesUptoRow.laid W) (hk : Rows.uptoSmall H (ds ++ gs) = true) :
    Calls Tryz.prog 6 args W fun e W' => ∃ v, e = .returned v ∧ Rows.filterMakesSpec.post enc Tryz.prog Tryz.f6 false true false false W args v W' := by
  have hW' := hW
  obtain ⟨p, q, hA0, hV, rfl, hfz, hnd⟩ := hW
  have hA : DataW.TrodAll enc Tryz.prog W 0 (fun _ => true) true Tryz.f6.params.toList args.toList ds p := hA0
  rw [Tryz.params6] at hA hval
  obtain ⟨v0, vs0, d0, ds0, p0, q0, hargs, rfl, rfl, k0, r0⟩ := trodAll_cons hA
  obtain ⟨v1, vs1, d1, ds1, p1, q1, hvs1, rfl, rfl, k1, r1⟩ := trodAll_cons r0
  obtain ⟨v2, vs2, d2, ds2, p2, q2, hvs2, rfl, rfl, k2, r2⟩ := trodAll_cons r1
  obtain ⟨hnil, rfl, rfl⟩ := trodAll_nil r2
  subst hnil
  subst hvs2
  subst hvs1
  obtain rfl : args = #[v0, v1, v2] := by cases args; simp_all
  obtain ⟨rfl, rfl⟩ := trodVars_none hV
  obtain ⟨o0, ho0, hb0⟩ := Xs (hval 0 25 v0 rfl rfl) k0
  obtain ⟨l1, hs1⟩ := Xf (hval 1 53 v1 rfl rfl) k1
  obtain ⟨s2, rfl, rfl, rfl, hs2⟩ := open_string ahF (hval 2 9 v2 rfl rfl) k2
  have h2 : s2.data.toList.length ≤ 9223372036854775807 := by rw [← Lib.size_eq]; exact hs2
  clear hA0
  simp only [ahV, aiM] at hW' hk
  have hod : Od (Mem.all W) := Yq (Lib.tabIs_of_head (g := 2) (by kernel_rfl) (by kernel_rfl) Tryz.underlying308 aiX (by kernel_rfl) (by kernel_rfl) hL)
  have hrp : Rp (Mem.all W) := X5 (yE hL)
  have hpw : Pws (Mem.all W) := Uy (Lib.tabIs_of_head (g := 0) (by kernel_rfl) (by kernel_rfl) Tryz.underlying197 anP (by kernel_rfl) (by kernel_rfl) (yE (yE hL)))
  have walk : Ret Tryz.prog 6 #[v0, v1, .string s2] W (fun v w' => v = .bool true ∧ Below W.heap.size W w') := filterMakes_row o0 v0 v1 l1 s2.data.toList W hrp hod hpw ho0 (by have := afI hk; omega) hs1
  refine Calls.mono walk ?_
  rintro e W' ⟨v, rfl, rfl, hb⟩
  exact ⟨_, rfl, Ux laidOut (by kernel_rfl) (by kernel_rfl) Tryz.underlying4 rfl hW' rfl hb⟩

noncomputable def Gv (os : Os) : World :=
  (Oe (X9 (Oe (World.holding Tryz.prog os ⟨#[], #[], []⟩) 2 (acM Rows.laid_foliant_inflate_order)) 3) 0 (acM Rows.laid_foliant_ascii_powers))
theorem VS (os : Os) : laidMet Tryz.prog Rows.filterMakesUptoRow.laid ((Gv os).forCall (fun _ _ => 0) ⟨#[], #[.agg #[.int .i64 0, .int .i64 0, .int .i64 0, .string ⟨#[]⟩, .slice none 0 0, .slice none 0 0], .slice none 0 0, .string ⟨#[]⟩], []⟩).memory :=
  laidMet_of_run' 8 (by kernel_rfl) (by kernel_rfl)
theorem reads (os : Os) {H : Type} (enc : TypeId × Value → H) : ∃ places, DataW.whole enc Tryz.prog ((Gv os).forCall (fun _ _ => 0) ⟨#[], #[.agg #[.int .i64 0, .int .i64 0, .int .i64 0, .string ⟨#[]⟩, .slice none 0 0, .slice none 0 0], .slice none 0 0, .string ⟨#[]⟩], []⟩).memory Tryz.f6.params.toList Rows.filterMakesSpec.vars false #[.agg #[.int .i64 0, .int .i64 0, .int .i64 0, .string ⟨#[]⟩, .slice none 0 0, .slice none 0 0], .slice none 0 0, .string ⟨#[]⟩].toList 8 = some ([.agg [.lit (.int .i64 0), .lit (.int .i64 0), .lit (.int .i64 0), .lit (.string []), .nil, .nil], .nil, .lit (.string [])], [], places) :=
  ⟨[], by kernel_rfl⟩

set_option maxRecDepth 100000 in
theorem lifted (os : Os) (started : os.Started) (H : Type) (enc : TypeId × Value → H) (F : Stop.Interp) :
    ReturnsInHanded {} Tryz.checked os 6 .any ((Rows.OpenSpec.upto Rows.filterMakesSpec).preRow enc Tryz.prog Tryz.f6 Rows.filterMakesUptoRow.domain false Rows.filterMakesUptoRow.laid) (((Rows.OpenSpec.upto Rows.filterMakesSpec).at F).post enc Tryz.prog Tryz.f6 false true false false) := by
  obtain ⟨places, hx⟩ := reads os enc
  refine returnsInHanded_of_row (C := Tryz.checked) (s := Rows.OpenSpec.upto Rows.filterMakesSpec) own started (by kernel_rfl) Tryz.func6
    (witness_row_at (enc := enc) (C := Tryz.checked) false (Gv os) #[.agg #[.int .i64 0, .int .i64 0, .int .i64 0, .string ⟨#[]⟩, .slice none 0 0, .slice none 0 0], .slice none 0 0, .string ⟨#[]⟩] rfl (by kernel_rfl) (by kernel_rfl) (by kernel_rfl)
      (OpenSpec.preRow_of_cond 8 hx (by kernel_rfl) (fun k hk => by cases hk; kernel_rfl) (by kernel_rfl) (VS os))) ?_
  intro W base args ds gs before hval hW _ hcond _ hL _ _
  exact T6 H enc W base args ds gs before hval hW hL (hcond _ rfl)
theorem said : Rows.FilterMakesUptoSaid :=
  OpenClaim.holds_of_cond 6 Tryz.f6 rfl rfl rfl rfl rfl rfl rfl ⟨rfl, rfl, rfl, rfl, rfl⟩ rfl rfl rfl rfl rfl (by kernel_rfl) Tryz.func6 closed
    (ahO (by kernel_rfl)) (by unfold Func.isWrapper; first | (rw [agW (by decide +kernel)]; kernel_rfl) | (rw [agV (by decide +kernel)]; exact ⟨rfl, rfl⟩))
    (fun os started H enc _ F => by rw [OpenClaim.pre_eq_preRow]; exact lifted os started H enc F)
theorem plain (f : FuncId) (fn : Func) (hf : Tryz.pinned.checked.prog.funcNamed "foliant/foliantlaw16.FilterMakes" = some f) (hfn : Tryz.pinned.checked.prog.funcs[f]? = some fn) :
    true = Tryz.pinned.checked.prog.looks [] ∧ ∀ (j : Nat) t, fn.params[j]? = some t → Tryz.pinned.checked.prog.wantsStandIn t = false := by
  obtain rfl : f = 6 := akJ ((show Tryz.prog.funcNamed "foliant/foliantlaw16.FilterMakes" = some 6 by kernel_rfl).symm.trans hf) |>.symm
  obtain rfl : fn = Tryz.f6 := (akJ (Tryz.func6.symm.trans hfn)).symm
  refine ⟨by kernel_rfl, fun j t ht => ?_⟩
  rw [Tryz.params6] at ht
  have hall : #[25, 53, 9].all (fun t => !(Tryz.prog.wantsStandIn t)) = true := by kernel_rfl
  have := Array.all_eq_true_iff_forall_mem.1 hall t (amR ht)
  show Tryz.prog.wantsStandIn t = false
  simpa using this
end RowFilterMakes
/-- THE CARD. -/
theorem filterMakes_card : Rows.FilterMakesUptoCardSaid :=
  Claim7.holds_tied_plain_at .later [] _ _ _ _ RowFilterMakes.said (fun _ h => by cases h) RowFilterMakes.wf (fun _ h => by cases h) filterMakesUpto_row_tie rfl ⟨rfl, rfl⟩ (by kernel_rfl) rfl RowFilterMakes.plain RowFilterMakes.goes
end Go.Proofs.YtlipjfcbjemicaaGreatDoor
