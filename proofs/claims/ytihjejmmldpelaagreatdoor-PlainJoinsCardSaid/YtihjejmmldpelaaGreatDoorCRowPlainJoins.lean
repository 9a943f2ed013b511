/- The row and the card of foliantlaw04.PlainJoins: printed by law.py. -/
import Derived.Test.YtihjejmmldpelaaGreatDoorMmnanknjl
import Derived.Test.YtihjejmmldpelaaGreatDoorMpnkbkcap
import Derived.Test.YtihjejmmldpelaaGreatDoorMfibcmaon
import Derived.Test.YtihjejmmldpelaaGreatDoorMkgkmlgij
import Derived.Test.YtihjejmmldpelaaGreatDoorMiabgobaf
import Derived.Test.YtihjejmmldpelaaGreatDoorCards
import Derived.Test.YtihjejmmldpelaaGreatDoorTie
namespace Go.Proofs.YtihjejmmldpelaaGreatDoor
set_option linter.unusedVariables false
set_option linter.unusedSimpArgs false
set_option linter.defProp false
namespace RowPlainJoins
open Eng Go.ChangeShapes Go.WideShapes Go.ChangeAt Go.RowKit
open Go.ChangeMaps (open_string shut_string)
set_option linter.unusedVariables false

theorem own : ownKnob Tryz.prog.godebug = none := by kernel_rfl
theorem laidOut : laidOutB Tryz.prog = true := by kernel_rfl
set_option maxRecDepth 100000 in
theorem contract (H : Type) (enc : TypeId × Value → H) (W : World) (base : Nat) (args : Array Value) (ds gs : List (DataW H)) (before : List MemPlace)
    (hval : ∀ (j : Nat) t v, Tryz.f7.params[j]? = some t → args[j]? = some v → Value.okWide Tryz.prog W .any base t v)
    (hW : DataW.Whole enc Tryz.prog Tryz.f7.params.toList Rows.plainJoinsSpec.vars false W args.toList ds gs before) (hL : laidMet Tryz.prog Rows.plainJoinsRow.laid W) :
    Calls Tryz.prog 7 args W fun e W' => ∃ v, e = .returned v ∧ Rows.plainJoinsSpec.post enc Tryz.prog Tryz.f7 false true false false W args v W' := by
  have hW' := hW
  obtain ⟨p, q, hA0, hV, rfl, hfz, hnd⟩ := hW
  have hA : DataW.TrodAll enc Tryz.prog W 0 (fun _ => true) true Tryz.f7.params.toList args.toList ds p := hA0
  rw [Tryz.params7] at hA hval
  obtain ⟨v0, vs0, d0, ds0, p0, q0, hargs, rfl, rfl, k0, r0⟩ := trodAll_cons hA
  obtain ⟨hnil, rfl, rfl⟩ := trodAll_nil r0
  subst hnil
  obtain rfl : args = #[v0] := by cases args; simp_all
  obtain ⟨rfl, rfl⟩ := trodVars_none hV
  obtain ⟨zs0, hs0, hl0, he0⟩ := open_sl_str Tryz.underlying22 Tryz.underlying9 (by kernel_rfl) (hval 0 22 v0 rfl rfl) k0
  clear hA0
  simp only [List.append_nil, List.nil_append] at hW'
  have ht : Tb W := Lib.tabIs_of_head (g := 0) (by kernel_rfl) (by kernel_rfl) Tryz.underlying160 Tryz.underlying130 (by kernel_rfl) (by kernel_rfl) (laidMet_tail (laidMet_tail hL))
  have walk : Ret Tryz.prog 7 #[v0] W (fun v w' => v = .bool true ∧ Below W.heap.size W w') := plainJoins_ret v0 zs0 W ht hs0 hl0 he0
  refine Calls.mono walk ?_
  rintro e W' ⟨v, rfl, rfl, hb⟩
  exact ⟨_, rfl, law_post laidOut (by kernel_rfl) (by kernel_rfl) Tryz.underlying4 rfl hW' rfl hb⟩

noncomputable def laidWorld (os : Os) : World :=
  (layCells (layCells (layCells (layCells (layCells (World.holding Tryz.prog os ⟨#[], #[], []⟩) 2 (flat2 Rows.laid_math_bits_deBruijn32tab)) 3 (flat2 Rows.laid_math_bits_deBruijn64tab)) 0 (flat2 Rows.laid_internal_strconv_uint64pow10)) 5 (flat2 Rows.laid_unicode_utf8_acceptRanges)) 4 (flat2 Rows.laid_unicode_utf8_first))
theorem laid_met (os : Os) : laidMet Tryz.prog Rows.plainJoinsRow.laid ((laidWorld os).forCall (fun _ _ => 0) ⟨#[], #[.slice none 0 0], []⟩).memory :=
  laidMet_of_run' 8 (by kernel_rfl) (by kernel_rfl)
theorem reads (os : Os) {H : Type} (enc : TypeId × Value → H) : ∃ places, DataW.whole enc Tryz.prog ((laidWorld os).forCall (fun _ _ => 0) ⟨#[], #[.slice none 0 0], []⟩).memory Tryz.f7.params.toList Rows.plainJoinsSpec.vars false #[.slice none 0 0].toList 8 = some ([.nil], [], places) :=
  ⟨[], by kernel_rfl⟩

set_option maxRecDepth 100000 in
theorem lifted (os : Os) (started : os.Started) (H : Type) (enc : TypeId × Value → H) (F : Stop.Interp) :
    ReturnsInHanded {} Tryz.checked os 7 .any ((OpenSpec.ofChange Rows.plainJoinsSpec).preRow enc Tryz.prog Tryz.f7 Rows.plainJoinsRow.domain false Rows.plainJoinsRow.laid) (((OpenSpec.ofChange Rows.plainJoinsSpec).at F).post enc Tryz.prog Tryz.f7 false true false false) := by
  obtain ⟨places, hx⟩ := reads os enc
  refine returnsInHanded_of_row (C := Tryz.checked) (s := OpenSpec.ofChange Rows.plainJoinsSpec) own started (by kernel_rfl) Tryz.func7
    (witness_row_at (enc := enc) (C := Tryz.checked) false (laidWorld os) #[.slice none 0 0] rfl (by kernel_rfl) (by kernel_rfl) (by kernel_rfl)
      (OpenSpec.preRow_of_cond 8 hx (by kernel_rfl) (fun k hk => by cases hk) (by kernel_rfl) (laid_met os))) ?_
  intro W base args ds gs before hval hW _ _ _ hL _ _
  exact contract H enc W base args ds gs before hval hW hL
theorem said : Rows.PlainJoinsSaid :=
  OpenClaim.holds_of_cond 7 Tryz.f7 rfl rfl rfl rfl rfl rfl rfl ⟨rfl, rfl, rfl, rfl, rfl⟩ rfl rfl rfl rfl rfl (by kernel_rfl) Tryz.func7 (by kernel_rfl)
    (of_decide_eq_true (by kernel_rfl)) (by unfold Func.isWrapper; first | (rw [if_pos (by decide +kernel)]; kernel_rfl) | (rw [if_neg (by decide +kernel)]; exact ⟨rfl, rfl⟩))
    (fun os started H enc _ F => by rw [OpenClaim.pre_eq_preRow]; exact lifted os started H enc F)
theorem plain (f : FuncId) (fn : Func) (hf : Tryz.pinned.checked.prog.funcNamed "foliant/foliantlaw04.PlainJoins" = some f) (hfn : Tryz.pinned.checked.prog.funcs[f]? = some fn) :
    true = Tryz.pinned.checked.prog.looks [] ∧ ∀ (j : Nat) t, fn.params[j]? = some t → Tryz.pinned.checked.prog.wantsStandIn t = false := by
  obtain rfl : f = 7 := Option.some.inj ((show Tryz.prog.funcNamed "foliant/foliantlaw04.PlainJoins" = some 7 by kernel_rfl).symm.trans hf) |>.symm
  obtain rfl : fn = Tryz.f7 := (Option.some.inj (Tryz.func7.symm.trans hfn)).symm
  refine ⟨by kernel_rfl, fun j t ht => ?_⟩
  rw [Tryz.params7] at ht
  have hall : #[22].all (fun t => !(Tryz.prog.wantsStandIn t)) = true := by kernel_rfl
  have := Array.all_eq_true_iff_forall_mem.1 hall t (Array.mem_of_getElem? ht)
  show Tryz.prog.wantsStandIn t = false
  simpa using this
end RowPlainJoins
/-- THE CARD. -/
theorem plainJoins_card : Rows.PlainJoinsCardSaid :=
  Claim7.holds_tied_plain_at .later [] _ _ _ _ RowPlainJoins.said (fun _ h => by cases h) (by kernel_rfl) (fun _ h => by cases h) plainJoins_row_tie rfl ⟨rfl, rfl⟩ (by kernel_rfl) rfl RowPlainJoins.plain (by kernel_rfl)
end Go.Proofs.YtihjejmmldpelaaGreatDoor
