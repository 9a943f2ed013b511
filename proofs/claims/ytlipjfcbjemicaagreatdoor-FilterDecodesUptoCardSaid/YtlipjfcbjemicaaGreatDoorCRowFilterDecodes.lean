/- The row and the card of foliantlaw16.FilterDecodes: printed by law.py. -/
import Derived.Test.YtlipjfcbjemicaaGreatDoorMmaflihpg
import Derived.Test.YtlipjfcbjemicaaGreatDoorMkdodoemo
import Derived.Test.YtlipjfcbjemicaaGreatDoorMikgnniin
import Derived.Test.YtlipjfcbjemicaaGreatDoorMbdjagian
import Derived.Test.YtlipjfcbjemicaaGreatDoorMcjgofdhk
import Derived.Test.YtlipjfcbjemicaaGreatDoorMpfccfgmk
import Derived.Test.YtlipjfcbjemicaaGreatDoorMjgpcobop
import Derived.Test.YtlipjfcbjemicaaGreatDoorCards
import Derived.Test.YtlipjfcbjemicaaGreatDoorTie
import Derived.Test.YtlipjfcbjemicaaGreatDoorRowFFilterDecodes
import Derived.Test.YtlipjfcbjemicaaGreatDoorRowFGFilterDecodes
namespace Go.Proofs.YtlipjfcbjemicaaGreatDoor
set_option linter.unusedVariables false
set_option linter.unusedSimpArgs false
set_option linter.defProp false
namespace RowFilterDecodes
open Eng Go.ChangeShapes Go.WideShapes Go.ChangeAt Go.RowKit
open Go.ChangeMaps (open_string shut_string)
set_option linter.unusedVariables false

theorem own : ownKnob Tryz.prog.godebug = none := by kernel_rfl
theorem laidOut : laidOutB Tryz.prog = true := by kernel_rfl
set_option maxRecDepth 100000 in
theorem contract (H : Type) (enc : TypeId × Value → H) (W : World) (base : Nat) (args : Array Value) (ds gs : List (DataW H)) (before : List MemPlace)
    (hval : ∀ (j : Nat) t v, Tryz.f3.params[j]? = some t → args[j]? = some v → Value.okWide Tryz.prog W .any base t v)
    (hW : DataW.Whole enc Tryz.prog Tryz.f3.params.toList Rows.filterDecodesSpec.vars false W args.toList ds gs before) (hL : laidMet Tryz.prog Rows.filterDecodesUptoRow.laid W) (hk : Rows.uptoSmall H (ds ++ gs) = true) :
    Calls Tryz.prog 3 args W fun e W' => ∃ v, e = .returned v ∧ Rows.filterDecodesSpec.post enc Tryz.prog Tryz.f3 false true false false W args v W' := by
  have hW' := hW
  obtain ⟨p, q, hA0, hV, rfl, hfz, hnd⟩ := hW
  have hA : DataW.TrodAll enc Tryz.prog W 0 (fun _ => true) true Tryz.f3.params.toList args.toList ds p := hA0
  rw [Tryz.params3] at hA hval
  obtain ⟨v0, vs0, d0, ds0, p0, q0, hargs, rfl, rfl, k0, r0⟩ := trodAll_cons hA
  obtain ⟨v1, vs1, d1, ds1, p1, q1, hvs1, rfl, rfl, k1, r1⟩ := trodAll_cons r0
  obtain ⟨v2, vs2, d2, ds2, p2, q2, hvs2, rfl, rfl, k2, r2⟩ := trodAll_cons r1
  obtain ⟨v3, vs3, d3, ds3, p3, q3, hvs3, rfl, rfl, k3, r3⟩ := trodAll_cons r2
  obtain ⟨hnil, rfl, rfl⟩ := trodAll_nil r3
  subst hnil
  subst hvs3
  subst hvs2
  subst hvs1
  obtain rfl : args = #[v0, v1, v2, v3] := by cases args; simp_all
  obtain ⟨rfl, rfl⟩ := trodVars_none hV
  obtain ⟨o0, ho0, hb0⟩ := row_obj (hval 0 25 v0 rfl rfl) k0
  obtain ⟨s1, rfl, rfl, rfl, hs1⟩ := open_string Tryz.underlying9 (hval 1 9 v1 rfl rfl) k1
  have h1 : s1.data.toList.length ≤ 9223372036854775807 := by rw [← Lib.size_eq]; exact hs1
  obtain ⟨x2, rfl⟩ := row_parms (hval 2 27 v2 rfl rfl) k2
  obtain ⟨s3, rfl, rfl, rfl, hs3⟩ := open_string Tryz.underlying9 (hval 3 9 v3 rfl rfl) k3
  have h3 : s3.data.toList.length ≤ 9223372036854775807 := by rw [← Lib.size_eq]; exact hs3
  clear hA0
  simp only [List.append_nil, List.nil_append] at hW' hk
  have hod : Od (Mem.all W) := od_laid (Lib.tabIs_of_head (g := 2) (by kernel_rfl) (by kernel_rfl) Tryz.underlying308 Tryz.underlying3 (by kernel_rfl) (by kernel_rfl) hL)
  have hrp : Rp (Mem.all W) := rp_laid (laidMet_tail hL)
  have hpw : Pws (Mem.all W) := pws_laid (Lib.tabIs_of_head (g := 0) (by kernel_rfl) (by kernel_rfl) Tryz.underlying197 Tryz.underlying147 (by kernel_rfl) (by kernel_rfl) (laidMet_tail (laidMet_tail hL)))
  have walk : Ret Tryz.prog 3 #[v0, .string s1, pmV x2, .string s3] W (fun v w' => v = .bool true ∧ Below W.heap.size W w') := filterDecodes_row o0 v0 s1.data.toList x2 s3.data.toList W hrp hod hpw ho0 (by have := bulk4 hk; omega)
  refine Calls.mono walk ?_
  rintro e W' ⟨v, rfl, rfl, hb⟩
  exact ⟨_, rfl, law_post laidOut (by kernel_rfl) (by kernel_rfl) Tryz.underlying4 rfl hW' rfl hb⟩

noncomputable def laidWorld (os : Os) : World :=
  (layCells (layReps (layCells (World.holding Tryz.prog os ⟨#[], #[], []⟩) 2 (flat2 Rows.laid_foliant_inflate_order)) 3) 0 (flat2 Rows.laid_foliant_ascii_powers))
theorem laid_met (os : Os) : laidMet Tryz.prog Rows.filterDecodesUptoRow.laid ((laidWorld os).forCall (fun _ _ => 0) ⟨#[], #[.agg #[.int .i64 0, .int .i64 0, .int .i64 0, .string ⟨#[]⟩, .slice none 0 0, .slice none 0 0], .string ⟨#[]⟩, .agg #[.int .i64 0, .int .i64 0, .int .i64 0], .string ⟨#[]⟩], []⟩).memory :=
  laidMet_of_run' 8 (by kernel_rfl) (by kernel_rfl)
theorem reads (os : Os) {H : Type} (enc : TypeId × Value → H) : ∃ places, DataW.whole enc Tryz.prog ((laidWorld os).forCall (fun _ _ => 0) ⟨#[], #[.agg #[.int .i64 0, .int .i64 0, .int .i64 0, .string ⟨#[]⟩, .slice none 0 0, .slice none 0 0], .string ⟨#[]⟩, .agg #[.int .i64 0, .int .i64 0, .int .i64 0], .string ⟨#[]⟩], []⟩).memory Tryz.f3.params.toList Rows.filterDecodesSpec.vars false #[.agg #[.int .i64 0, .int .i64 0, .int .i64 0, .string ⟨#[]⟩, .slice none 0 0, .slice none 0 0], .string ⟨#[]⟩, .agg #[.int .i64 0, .int .i64 0, .int .i64 0], .string ⟨#[]⟩].toList 8 = some ([.agg [.lit (.int .i64 0), .lit (.int .i64 0), .lit (.int .i64 0), .lit (.string []), .nil, .nil], .lit (.string []), .agg [.lit (.int .i64 0), .lit (.int .i64 0), .lit (.int .i64 0)], .lit (.string [])], [], places) :=
  ⟨[], by kernel_rfl⟩

set_option maxRecDepth 100000 in
theorem lifted (os : Os) (started : os.Started) (H : Type) (enc : TypeId × Value → H) (F : Stop.Interp) :
    ReturnsInHanded {} Tryz.checked os 3 .any ((Rows.OpenSpec.upto Rows.filterDecodesSpec).preRow enc Tryz.prog Tryz.f3 Rows.filterDecodesUptoRow.domain false Rows.filterDecodesUptoRow.laid) (((Rows.OpenSpec.upto Rows.filterDecodesSpec).at F).post enc Tryz.prog Tryz.f3 false true false false) := by
  obtain ⟨places, hx⟩ := reads os enc
  refine returnsInHanded_of_row (C := Tryz.checked) (s := Rows.OpenSpec.upto Rows.filterDecodesSpec) own started (by kernel_rfl) Tryz.func3
    (witness_row_at (enc := enc) (C := Tryz.checked) false (laidWorld os) #[.agg #[.int .i64 0, .int .i64 0, .int .i64 0, .string ⟨#[]⟩, .slice none 0 0, .slice none 0 0], .string ⟨#[]⟩, .agg #[.int .i64 0, .int .i64 0, .int .i64 0], .string ⟨#[]⟩] rfl (by kernel_rfl) (by kernel_rfl) (by kernel_rfl)
      (OpenSpec.preRow_of_cond 8 hx (by kernel_rfl) (fun k hk => by cases hk; kernel_rfl) (by kernel_rfl) (laid_met os))) ?_
  intro W base args ds gs before hval hW _ hcond _ hL _ _
  exact contract H enc W base args ds gs before hval hW hL (hcond _ rfl)
theorem said : Rows.FilterDecodesUptoSaid :=
  OpenClaim.holds_of_cond 3 Tryz.f3 rfl rfl rfl rfl rfl rfl rfl ⟨rfl, rfl, rfl, rfl, rfl⟩ rfl rfl rfl rfl rfl (by kernel_rfl) Tryz.func3 closed
    (of_decide_eq_true (by kernel_rfl)) (by unfold Func.isWrapper; first | (rw [if_pos (by decide +kernel)]; kernel_rfl) | (rw [if_neg (by decide +kernel)]; exact ⟨rfl, rfl⟩))
    (fun os started H enc _ F => by rw [OpenClaim.pre_eq_preRow]; exact lifted os started H enc F)
theorem plain (f : FuncId) (fn : Func) (hf : Tryz.pinned.checked.prog.funcNamed "foliant/foliantlaw16.FilterDecodes" = some f) (hfn : Tryz.pinned.checked.prog.funcs[f]? = some fn) :
    true = Tryz.pinned.checked.prog.looks [] ∧ ∀ (j : Nat) t, fn.params[j]? = some t → Tryz.pinned.checked.prog.wantsStandIn t = false := by
  obtain rfl : f = 3 := Option.some.inj ((show Tryz.prog.funcNamed "foliant/foliantlaw16.FilterDecodes" = some 3 by kernel_rfl).symm.trans hf) |>.symm
  obtain rfl : fn = Tryz.f3 := (Option.some.inj (Tryz.func3.symm.trans hfn)).symm
  refine ⟨by kernel_rfl, fun j t ht => ?_⟩
  rw [Tryz.params3] at ht
  have hall : #[25, 9, 27, 9].all (fun t => !(Tryz.prog.wantsStandIn t)) = true := by kernel_rfl
  have := Array.all_eq_true_iff_forall_mem.1 hall t (Array.mem_of_getElem? ht)
  show Tryz.prog.wantsStandIn t = false
  simpa using this
end RowFilterDecodes
/-- THE CARD. -/
theorem filterDecodes_card : Rows.FilterDecodesUptoCardSaid :=
  Claim7.holds_tied_plain_at .later [] _ _ _ _ RowFilterDecodes.said (fun _ h => by cases h) RowFilterDecodes.wf (fun _ h => by cases h) filterDecodesUpto_row_tie rfl ⟨rfl, rfl⟩ (by kernel_rfl) rfl RowFilterDecodes.plain RowFilterDecodes.goes
end Go.Proofs.YtlipjfcbjemicaaGreatDoor
