/- The row and the card of foliantlaw47.FontTells: printed by law.py. -/
import Derived.Test.YtmkodaephgnehaaGreatDoorMejpblbll
import Derived.Test.YtmkodaephgnehaaGreatDoorMhlgoppdo
import Derived.Test.YtmkodaephgnehaaGreatDoorMbbklgjan
import Derived.Test.YtmkodaephgnehaaGreatDoorModldendm
import Derived.Test.YtmkodaephgnehaaGreatDoorMjnjkagio
import Derived.Test.YtmkodaephgnehaaGreatDoorCards
import Derived.Test.YtmkodaephgnehaaGreatDoorTie
import Derived.Test.YtmkodaephgnehaaGreatDoorRowFFontTells
import Derived.Test.YtmkodaephgnehaaGreatDoorRowFGFontTells
import Derived.Lay
import Derived.Deep.DeepWitnessRowRef
namespace Go.Proofs.YtmkodaephgnehaaGreatDoor
set_option linter.unusedVariables false
set_option linter.unusedSimpArgs false
set_option linter.defProp false
namespace RowFontTells
open Eng Go.ChangeShapes Go.WideShapes Go.ChangeAt Go.RowKit
open Go.ChangeMaps (open_string shut_string)
set_option linter.unusedVariables false

theorem own : ownKnob Tryz.prog.godebug = none := by kernel_rfl
theorem laidOut : laidOutB Tryz.prog = true := by kernel_rfl
set_option maxRecDepth 100000 in
theorem contract (H : Type) (enc : TypeId × Value → H) (W : World) (base : Nat) (args : Array Value) (ds gs : List (DataW H)) (before : List MemPlace)
    (hval : ∀ (j : Nat) t v, Tryz.f3.params[j]? = some t → args[j]? = some v → Value.okWide Tryz.prog W .any base t v)
    (hW : DataW.Whole enc Tryz.prog Tryz.f3.params.toList Rows.fontTellsSpec.vars false W args.toList ds gs before) (hL : laidMet Tryz.prog Rows.fontTellsUptoRow.laid W) (hk : Rows.uptoSmall H (ds ++ gs) = true) :
    Calls Tryz.prog 3 args W fun e W' => ∃ v, e = .returned v ∧ Rows.fontTellsSpec.post enc Tryz.prog Tryz.f3 false true false false W args v W' := by
  have hW' := hW
  obtain ⟨p, q, hA0, hV, rfl, hfz, hnd⟩ := hW
  have hA : DataW.TrodAll enc Tryz.prog W 0 (fun _ => true) true Tryz.f3.params.toList args.toList ds p := hA0
  rw [Tryz.params3] at hA hval
  obtain ⟨v0, vs0, d0, ds0, p0, q0, hargs, rfl, rfl, k0, r0⟩ := trodAll_cons hA
  obtain ⟨v1, vs1, d1, ds1, p1, q1, hvs1, rfl, rfl, k1, r1⟩ := trodAll_cons r0
  obtain ⟨v2, vs2, d2, ds2, p2, q2, hvs2, rfl, rfl, k2, r2⟩ := trodAll_cons r1
  obtain ⟨v3, vs3, d3, ds3, p3, q3, hvs3, rfl, rfl, k3, r3⟩ := trodAll_cons r2
  obtain ⟨hnil, rfl, rfl⟩ := trodAll_nil r3
  subst hnil
  subst hvs3
  subst hvs2
  subst hvs1
  obtain rfl : args = #[v0, v1, v2, v3] := by cases args; simp_all
  obtain ⟨rfl, rfl⟩ := trodVars_none hV
  obtain ⟨f0, wv0, nv0, mv0, rfl, ha0, hk0⟩ := row_font (hval 0 26 v0 rfl rfl) k0
  obtain ⟨a1, rfl, rfl, rfl, hw1⟩ := open_int Tryz.underlying3 (hval 1 3 v1 rfl rfl) k1
  have h1 := int_bounds_i64 hw1
  obtain ⟨s2, rfl, rfl, rfl, hs2⟩ := open_string Tryz.underlying9 (hval 2 9 v2 rfl rfl) k2
  have h2 : s2.data.toList.length ≤ 9223372036854775807 := by rw [← Lib.size_eq]; exact hs2
  obtain ⟨s3, rfl, rfl, rfl, hs3⟩ := open_string Tryz.underlying9 (hval 3 9 v3 rfl rfl) k3
  have h3 : s3.data.toList.length ≤ 9223372036854775807 := by rw [← Lib.size_eq]; exact hs3
  clear hA0
  simp only [List.append_nil, List.nil_append] at hW' hk
  have hut : UtM (Mem.all W) := utM_laid hL (List.mem_of_getElem? (i := 6) (by kernel_rfl)) (List.mem_of_getElem? (i := 0) (by kernel_rfl))
  have hsp : SpM (Mem.all W) := spM_laid (Lib.tabIs_of_head (g := 0) (by kernel_rfl) (by kernel_rfl) Tryz.underlying103 Tryz.underlying5 (by kernel_rfl) (by kernel_rfl) (laidMet_tail (laidMet_tail (laidMet_tail (laidMet_tail hL)))))
  have walk : Ret Tryz.prog 3 #[ftV f0 wv0 nv0 mv0, .int .i64 a1, .string s2, .string s3] W (fun v w' => v = .bool true ∧ Below W.heap.size W w') := fontTells_row f0 a1 s2.data.toList s3.data.toList wv0 nv0 mv0 W hut hsp (hk0 (by have := bulk_font4 hk; omega)) h1 ha0
  refine Calls.mono walk ?_
  rintro e W' ⟨v, rfl, rfl, hb⟩
  exact ⟨_, rfl, law_post laidOut (by kernel_rfl) (by kernel_rfl) Tryz.underlying4 rfl hW' rfl hb⟩

noncomputable def laidWorld (os : Os) : World :=
  (layReps (World.holding Tryz.prog os ⟨#[], #[], []⟩) 7).layVars Tryz.prog (Rows.fontTellsUptoRow.laid.filter fun x => (["unicode/utf8.acceptRanges", "foliant/inflate.order", "unicode.White_Space", "strings.asciiSpace", "foliant/ascii.powers", "unicode/utf8.first"] : List String).contains x.1)
theorem fits (os : Os) : (layReps (World.holding Tryz.prog os ⟨#[], #[], []⟩) 7).layFits Tryz.prog (Rows.fontTellsUptoRow.laid.filter fun x => (["unicode/utf8.acceptRanges", "foliant/inflate.order", "unicode.White_Space", "strings.asciiSpace", "foliant/ascii.powers", "unicode/utf8.first"] : List String).contains x.1) [7, (World.holding Tryz.prog os ⟨#[], #[], []⟩).heap.size] = true := by kernel_rfl
theorem ifaces (os : Os) : (layReps (World.holding Tryz.prog os ⟨#[], #[], []⟩) 7).layIfaces Tryz.prog (Rows.fontTellsUptoRow.laid.filter fun x => (["unicode/utf8.acceptRanges", "foliant/inflate.order", "unicode.White_Space", "strings.asciiSpace", "foliant/ascii.powers", "unicode/utf8.first"] : List String).contains x.1) (laidWorld os) = true := by kernel_rfl
theorem laid_met (os : Os) : laidMet Tryz.prog Rows.fontTellsUptoRow.laid ((laidWorld os).forCall (fun _ _ => 0) ⟨#[], #[.agg #[.string ⟨#[]⟩, .bool false, .int .i64 0, .slice none 0 0, .int .i64 0, .slice none 0 0, .slice none 0 0], .int .i64 0, .string ⟨#[]⟩, .string ⟨#[]⟩], []⟩).memory :=
 by
  have h : laidMet Tryz.prog Rows.fontTellsUptoRow.laid (laidWorld os) := laidMet_layVars (w0 := (layReps (World.holding Tryz.prog os ⟨#[], #[], []⟩) 7)) ["unicode/utf8.acceptRanges", "foliant/inflate.order", "unicode.White_Space", "strings.asciiSpace", "foliant/ascii.powers", "unicode/utf8.first"] [7, (World.holding Tryz.prog os ⟨#[], #[], []⟩).heap.size] rfl (fits os) (ifaces os) (LaidIn.of_run _ 8 (by kernel_rfl) (by kernel_rfl) (by kernel_rfl) (by kernel_rfl))
  exact h.of_heap (by simp [World.memory, World.forCall, Input.heap])
theorem reads (os : Os) {H : Type} (enc : TypeId × Value → H) : ∃ places, DataW.whole enc Tryz.prog ((laidWorld os).forCall (fun _ _ => 0) ⟨#[], #[.agg #[.string ⟨#[]⟩, .bool false, .int .i64 0, .slice none 0 0, .int .i64 0, .slice none 0 0, .slice none 0 0], .int .i64 0, .string ⟨#[]⟩, .string ⟨#[]⟩], []⟩).memory Tryz.f3.params.toList Rows.fontTellsSpec.vars false #[.agg #[.string ⟨#[]⟩, .bool false, .int .i64 0, .slice none 0 0, .int .i64 0, .slice none 0 0, .slice none 0 0], .int .i64 0, .string ⟨#[]⟩, .string ⟨#[]⟩].toList 8 = some ([.agg [.lit (.string []), .lit (.bool false), .lit (.int .i64 0), .nil, .lit (.int .i64 0), .nil, .nil], .lit (.int .i64 0), .lit (.string []), .lit (.string [])], [], places) :=
  ⟨[], by kernel_rfl⟩

set_option maxRecDepth 100000 in
theorem lifted (os : Os) (started : os.Started) (H : Type) (enc : TypeId × Value → H) (F : Stop.Interp) :
    ReturnsInHanded {} Tryz.checked os 3 .any ((Rows.OpenSpec.upto Rows.fontTellsSpec).preRow enc Tryz.prog Tryz.f3 Rows.fontTellsUptoRow.domain false Rows.fontTellsUptoRow.laid) (((Rows.OpenSpec.upto Rows.fontTellsSpec).at F).post enc Tryz.prog Tryz.f3 false true false false) := by
  obtain ⟨places, hx⟩ := reads os enc
  refine returnsInHanded_of_row (C := Tryz.checked) (s := Rows.OpenSpec.upto Rows.fontTellsSpec) own started (by kernel_rfl) Tryz.func3
    (witness_row_atRef (enc := enc) (C := Tryz.checked) false (laidWorld os) #[.agg #[.string ⟨#[]⟩, .bool false, .int .i64 0, .slice none 0 0, .int .i64 0, .slice none 0 0, .slice none 0 0], .int .i64 0, .string ⟨#[]⟩, .string ⟨#[]⟩] (World.layVars_os _ _ _) (by kernel_rfl) (by kernel_rfl) (by kernel_rfl)
      (OpenSpec.preRow_of_cond 8 hx (by kernel_rfl) (fun k hk => by cases hk; kernel_rfl) (by kernel_rfl) (laid_met os))) ?_
  intro W base args ds gs before hval hW _ hcond _ hL _ _
  exact contract H enc W base args ds gs before hval hW hL (hcond _ rfl)
theorem said : Rows.FontTellsUptoSaid :=
  OpenClaim.holds_of_cond 3 Tryz.f3 rfl rfl rfl rfl rfl rfl rfl ⟨rfl, rfl, rfl, rfl, rfl⟩ rfl rfl rfl rfl rfl (by kernel_rfl) Tryz.func3 closed
    (of_decide_eq_true (by kernel_rfl)) (by unfold Func.isWrapper; first | (rw [if_pos (by decide +kernel)]; kernel_rfl) | (rw [if_neg (by decide +kernel)]; exact ⟨rfl, rfl⟩))
    (fun os started H enc _ F => by rw [OpenClaim.pre_eq_preRow]; exact lifted os started H enc F)
theorem plain (f : FuncId) (fn : Func) (hf : Tryz.pinned.checked.prog.funcNamed "foliant/foliantlaw47.FontTells" = some f) (hfn : Tryz.pinned.checked.prog.funcs[f]? = some fn) :
    true = Tryz.pinned.checked.prog.looks [] ∧ ∀ (j : Nat) t, fn.params[j]? = some t → Tryz.pinned.checked.prog.wantsStandIn t = false := by
  obtain rfl : f = 3 := Option.some.inj ((show Tryz.prog.funcNamed "foliant/foliantlaw47.FontTells" = some 3 by kernel_rfl).symm.trans hf) |>.symm
  obtain rfl : fn = Tryz.f3 := (Option.some.inj (Tryz.func3.symm.trans hfn)).symm
  refine ⟨by kernel_rfl, fun j t ht => ?_⟩
  rw [Tryz.params3] at ht
  have hall : #[26, 3, 9, 9].all (fun t => !(Tryz.prog.wantsStandIn t)) = true := by kernel_rfl
  have := Array.all_eq_true_iff_forall_mem.1 hall t (Array.mem_of_getElem? ht)
  show Tryz.prog.wantsStandIn t = false
  simpa using this
end RowFontTells
/-- THE CARD. -/
theorem fontTells_card : Rows.FontTellsUptoCardSaid :=
  Claim7.holds_tied_plain_at .later [] _ _ _ _ RowFontTells.said (fun _ h => by cases h) RowFontTells.wf (fun _ h => by cases h) fontTellsUpto_row_tie rfl ⟨rfl, rfl⟩ (by kernel_rfl) rfl RowFontTells.plain RowFontTells.goes
end Go.Proofs.YtmkodaephgnehaaGreatDoor
