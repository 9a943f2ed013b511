/- The row and the card of foliantlaw04.PlainReads: printed by law.py. -/
import Derived.Test.YtihjejmmldpelaaGreatDoorMmnanknjl
import Derived.Test.YtihjejmmldpelaaGreatDoorMpnkbkcap
import Derived.Test.YtihjejmmldpelaaGreatDoorMfibcmaon
import Derived.Test.YtihjejmmldpelaaGreatDoorMkgkmlgij
import Derived.Test.YtihjejmmldpelaaGreatDoorMiabgobaf
import Derived.Test.YtihjejmmldpelaaGreatDoorCards
import Derived.Test.YtihjejmmldpelaaGreatDoorTie
namespace Go.Proofs.YtihjejmmldpelaaGreatDoor
set_option linter.unusedVariables false
set_option linter.unusedSimpArgs false
set_option linter.defProp false
namespace RowPlainReads
open Eng Go.ChangeShapes Go.WideShapes Go.ChangeAt Go.RowKit
open Go.ChangeMaps (open_string shut_string)
set_option linter.unusedVariables false

theorem own : ownKnob Tryz.prog.godebug = none := by kernel_rfl
theorem laidOut : laidOutB Tryz.prog = true := by kernel_rfl
set_option maxRecDepth 100000 in
theorem contract (H : Type) (enc : TypeId × Value → H) (W : World) (base : Nat) (args : Array Value) (ds gs : List (DataW H)) (before : List MemPlace)
    (hval : ∀ (j : Nat) t v, Tryz.f6.params[j]? = some t → args[j]? = some v → Value.okWide Tryz.prog W .any base t v)
    (hW : DataW.Whole enc Tryz.prog Tryz.f6.params.toList Rows.plainReadsSpec.vars false W args.toList ds gs before) (hL : laidMet Tryz.prog Rows.plainReadsRow.laid W) :
    Calls Tryz.prog 6 args W fun e W' => ∃ v, e = .returned v ∧ Rows.plainReadsSpec.post enc Tryz.prog Tryz.f6 false true false false W args v W' := by
  have hW' := hW
  obtain ⟨p, q, hA0, hV, rfl, hfz, hnd⟩ := hW
  have hA : DataW.TrodAll enc Tryz.prog W 0 (fun _ => true) true Tryz.f6.params.toList args.toList ds p := hA0
  rw [Tryz.params6] at hA hval
  obtain ⟨v0, vs0, d0, ds0, p0, q0, hargs, rfl, rfl, k0, r0⟩ := trodAll_cons hA
  obtain ⟨v1, vs1, d1, ds1, p1, q1, hvs1, rfl, rfl, k1, r1⟩ := trodAll_cons r0
  obtain ⟨v2, vs2, d2, ds2, p2, q2, hvs2, rfl, rfl, k2, r2⟩ := trodAll_cons r1
  obtain ⟨v3, vs3, d3, ds3, p3, q3, hvs3, rfl, rfl, k3, r3⟩ := trodAll_cons r2
  obtain ⟨hnil, rfl, rfl⟩ := trodAll_nil r3
  subst hnil
  subst hvs3
  subst hvs2
  subst hvs1
  obtain rfl : args = #[v0, v1, v2, v3] := by cases args; simp_all
  obtain ⟨rfl, rfl⟩ := trodVars_none hV
  obtain ⟨a0, rfl, rfl, rfl, hw0⟩ := open_int Tryz.underlying2 (hval 0 2 v0 rfl rfl) k0
  have h0 := int_bounds_i64 hw0
  obtain ⟨a1, rfl, rfl, rfl, hw1⟩ := open_int Tryz.underlying2 (hval 1 2 v1 rfl rfl) k1
  have h1 := int_bounds_i64 hw1
  obtain ⟨s2, rfl, rfl, rfl, hs2⟩ := open_string Tryz.underlying9 (hval 2 9 v2 rfl rfl) k2
  have h2 : s2.data.toList.length ≤ 9223372036854775807 := by rw [← Lib.size_eq]; exact hs2
  obtain ⟨s3, rfl, rfl, rfl, hs3⟩ := open_string Tryz.underlying9 (hval 3 9 v3 rfl rfl) k3
  have h3 : s3.data.toList.length ≤ 9223372036854775807 := by rw [← Lib.size_eq]; exact hs3
  clear hA0
  simp only [List.append_nil, List.nil_append] at hW'
  have ht : Tb W := Lib.tabIs_of_head (g := 0) (by kernel_rfl) (by kernel_rfl) Tryz.underlying160 Tryz.underlying130 (by kernel_rfl) (by kernel_rfl) (laidMet_tail (laidMet_tail hL))
  have walk : Ret Tryz.prog 6 #[.int .i64 a0, .int .i64 a1, .string s2, .string s3] W (fun v w' => v = .bool true ∧ Below W.heap.size W w') := plainReads_ret a0 a1 s2.data.toList s3.data.toList W ht h3
  refine Calls.mono walk ?_
  rintro e W' ⟨v, rfl, rfl, hb⟩
  exact ⟨_, rfl, law_post laidOut (by kernel_rfl) (by kernel_rfl) Tryz.underlying4 rfl hW' rfl hb⟩

noncomputable def laidWorld (os : Os) : World :=
  (layCells (layCells (layCells (layCells (layCells (World.holding Tryz.prog os ⟨#[], #[], []⟩) 2 (flat2 Rows.laid_math_bits_deBruijn32tab)) 3 (flat2 Rows.laid_math_bits_deBruijn64tab)) 0 (flat2 Rows.laid_internal_strconv_uint64pow10)) 5 (flat2 Rows.laid_unicode_utf8_acceptRanges)) 4 (flat2 Rows.laid_unicode_utf8_first))
theorem laid_met (os : Os) : laidMet Tryz.prog Rows.plainReadsRow.laid ((laidWorld os).forCall (fun _ _ => 0) ⟨#[], #[.int .i64 0, .int .i64 0, .string ⟨#[]⟩, .string ⟨#[]⟩], []⟩).memory :=
  laidMet_of_run' 8 (by kernel_rfl) (by kernel_rfl)
theorem reads (os : Os) {H : Type} (enc : TypeId × Value → H) : ∃ places, DataW.whole enc Tryz.prog ((laidWorld os).forCall (fun _ _ => 0) ⟨#[], #[.int .i64 0, .int .i64 0, .string ⟨#[]⟩, .string ⟨#[]⟩], []⟩).memory Tryz.f6.params.toList Rows.plainReadsSpec.vars false #[.int .i64 0, .int .i64 0, .string ⟨#[]⟩, .string ⟨#[]⟩].toList 8 = some ([.lit (.int .i64 0), .lit (.int .i64 0), .lit (.string []), .lit (.string [])], [], places) :=
  ⟨[], by kernel_rfl⟩

set_option maxRecDepth 100000 in
theorem lifted (os : Os) (started : os.Started) (H : Type) (enc : TypeId × Value → H) (F : Stop.Interp) :
    ReturnsInHanded {} Tryz.checked os 6 .any ((OpenSpec.ofChange Rows.plainReadsSpec).preRow enc Tryz.prog Tryz.f6 Rows.plainReadsRow.domain false Rows.plainReadsRow.laid) (((OpenSpec.ofChange Rows.plainReadsSpec).at F).post enc Tryz.prog Tryz.f6 false true false false) := by
  obtain ⟨places, hx⟩ := reads os enc
  refine returnsInHanded_of_row (C := Tryz.checked) (s := OpenSpec.ofChange Rows.plainReadsSpec) own started (by kernel_rfl) Tryz.func6
    (witness_row_at (enc := enc) (C := Tryz.checked) false (laidWorld os) #[.int .i64 0, .int .i64 0, .string ⟨#[]⟩, .string ⟨#[]⟩] rfl (by kernel_rfl) (by kernel_rfl) (by kernel_rfl)
      (OpenSpec.preRow_of_cond 8 hx (by kernel_rfl) (fun k hk => by cases hk) (by kernel_rfl) (laid_met os))) ?_
  intro W base args ds gs before hval hW _ _ _ hL _ _
  exact contract H enc W base args ds gs before hval hW hL
theorem said : Rows.PlainReadsSaid :=
  OpenClaim.holds_of_cond 6 Tryz.f6 rfl rfl rfl rfl rfl rfl rfl ⟨rfl, rfl, rfl, rfl, rfl⟩ rfl rfl rfl rfl rfl (by kernel_rfl) Tryz.func6 (by kernel_rfl)
    (of_decide_eq_true (by kernel_rfl)) (by unfold Func.isWrapper; first | (rw [if_pos (by decide +kernel)]; kernel_rfl) | (rw [if_neg (by decide +kernel)]; exact ⟨rfl, rfl⟩))
    (fun os started H enc _ F => by rw [OpenClaim.pre_eq_preRow]; exact lifted os started H enc F)
theorem plain (f : FuncId) (fn : Func) (hf : Tryz.pinned.checked.prog.funcNamed "foliant/foliantlaw04.PlainReads" = some f) (hfn : Tryz.pinned.checked.prog.funcs[f]? = some fn) :
    true = Tryz.pinned.checked.prog.looks [] ∧ ∀ (j : Nat) t, fn.params[j]? = some t → Tryz.pinned.checked.prog.wantsStandIn t = false := by
  obtain rfl : f = 6 := Option.some.inj ((show Tryz.prog.funcNamed "foliant/foliantlaw04.PlainReads" = some 6 by kernel_rfl).symm.trans hf) |>.symm
  obtain rfl : fn = Tryz.f6 := (Option.some.inj (Tryz.func6.symm.trans hfn)).symm
  refine ⟨by kernel_rfl, fun j t ht => ?_⟩
  rw [Tryz.params6] at ht
  have hall : #[2, 2, 9, 9].all (fun t => !(Tryz.prog.wantsStandIn t)) = true := by kernel_rfl
  have := Array.all_eq_true_iff_forall_mem.1 hall t (Array.mem_of_getElem? ht)
  show Tryz.prog.wantsStandIn t = false
  simpa using this
end RowPlainReads
/-- THE CARD. -/
theorem plainReads_card : Rows.PlainReadsCardSaid :=
  Claim7.holds_tied_plain_at .later [] _ _ _ _ RowPlainReads.said (fun _ h => by cases h) (by kernel_rfl) (fun _ h => by cases h) plainReads_row_tie rfl ⟨rfl, rfl⟩ (by kernel_rfl) rfl RowPlainReads.plain (by kernel_rfl)
end Go.Proofs.YtihjejmmldpelaaGreatDoor
