/- The row and the card of foliantlaw47.FontEach: printed by law.py. -/
import Derived.Test.YtmkodaephgnehaaGreatDoorMkkceimln
import Derived.Test.YtmkodaephgnehaaGreatDoorMmkpgbmin
import Derived.Test.YtmkodaephgnehaaGreatDoorMmkfanipp
import Derived.Test.YtmkodaephgnehaaGreatDoorMhhfaghpd
import Derived.Test.YtmkodaephgnehaaGreatDoorMdillgfei
import Derived.Test.YtmkodaephgnehaaGreatDoorCards
import Derived.Test.YtmkodaephgnehaaGreatDoorTie
import Derived.Test.YtmkodaephgnehaaGreatDoorRowFFontEach
import Derived.Test.YtmkodaephgnehaaGreatDoorRowFGFontEach
import Derived.Lay
import Derived.Deep.DeepWitnessRowRef
namespace Go.Proofs.YtmkodaephgnehaaGreatDoor
set_option linter.unusedVariables false
set_option linter.unusedSimpArgs false
set_option linter.defProp false
namespace RowFontEach
open Eng Go.ChangeShapes Go.WideShapes Go.ChangeAt Go.RowKit
open Go.ChangeMaps (open_string shut_string)
set_option linter.unusedVariables false

theorem own : ownKnob Tryz.prog.godebug = none := by kernel_rfl
theorem laidOut : laidOutB Tryz.prog = true := by kernel_rfl
set_option maxRecDepth 100000 in
theorem contract (H : Type) (enc : TypeId × Value → H) (W : World) (base : Nat) (args : Array Value) (ds gs : List (DataW H)) (before : List MemPlace)
    (hval : ∀ (j : Nat) t v, Tryz.f4.params[j]? = some t → args[j]? = some v → Value.okWide Tryz.prog W .any base t v)
    (hW : DataW.Whole enc Tryz.prog Tryz.f4.params.toList Rows.fontEachSpec.vars false W args.toList ds gs before) (hL : laidMet Tryz.prog Rows.fontEachUptoRow.laid W) (hk : Rows.uptoSmall H (ds ++ gs) = true) :
    Calls Tryz.prog 4 args W fun e W' => ∃ v, e = .returned v ∧ Rows.fontEachSpec.post enc Tryz.prog Tryz.f4 false true false false W args v W' := by
  have hW' := hW
  obtain ⟨p, q, hA0, hV, rfl, hfz, hnd⟩ := hW
  have hA : DataW.TrodAll enc Tryz.prog W 0 (fun _ => true) true Tryz.f4.params.toList args.toList ds p := hA0
  rw [Tryz.params4] at hA hval
  obtain ⟨v0, vs0, d0, ds0, p0, q0, hargs, rfl, rfl, k0, r0⟩ := trodAll_cons hA
  obtain ⟨v1, vs1, d1, ds1, p1, q1, hvs1, rfl, rfl, k1, r1⟩ := trodAll_cons r0
  obtain ⟨hnil, rfl, rfl⟩ := trodAll_nil r1
  subst hnil
  subst hvs1
  obtain rfl : args = #[v0, v1] := by cases args; simp_all
  obtain ⟨rfl, rfl⟩ := trodVars_none hV
  obtain ⟨f0, wv0, nv0, mv0, rfl, ha0, hk0⟩ := row_font (hval 0 26 v0 rfl rfl) k0
  obtain ⟨s1, rfl, rfl, rfl, hs1⟩ := open_string Tryz.underlying9 (hval 1 9 v1 rfl rfl) k1
  have h1 : s1.data.toList.length ≤ 9223372036854775807 := by rw [← Lib.size_eq]; exact hs1
  clear hA0
  simp only [List.append_nil, List.nil_append] at hW' hk
  have hut : UtM (Mem.all W) := utM_laid hL (List.mem_of_getElem? (i := 6) (by kernel_rfl)) (List.mem_of_getElem? (i := 0) (by kernel_rfl))
  have hsp : SpM (Mem.all W) := spM_laid (Lib.tabIs_of_head (g := 0) (by kernel_rfl) (by kernel_rfl) Tryz.underlying103 Tryz.underlying5 (by kernel_rfl) (by kernel_rfl) (laidMet_tail (laidMet_tail (laidMet_tail (laidMet_tail hL)))))
  have walk : Ret Tryz.prog 4 #[ftV f0 wv0 nv0 mv0, .string s1] W (fun v w' => v = .bool true ∧ Below W.heap.size W w') := fontEach_row f0 s1.data.toList wv0 nv0 mv0 W hut hsp (hk0 (by have := bulk2 hk; omega)) ha0
  refine Calls.mono walk ?_
  rintro e W' ⟨v, rfl, rfl, hb⟩
  exact ⟨_, rfl, law_post laidOut (by kernel_rfl) (by kernel_rfl) Tryz.underlying4 rfl hW' rfl hb⟩

noncomputable def laidWorld (os : Os) : World :=
  (layReps (World.holding Tryz.prog os ⟨#[], #[], []⟩) 7).layVars Tryz.prog (Rows.fontEachUptoRow.laid.filter fun x => (["unicode/utf8.acceptRanges", "foliant/inflate.order", "unicode.White_Space", "strings.asciiSpace", "foliant/ascii.powers", "unicode/utf8.first"] : List String).contains x.1)
theorem fits (os : Os) : (layReps (World.holding Tryz.prog os ⟨#[], #[], []⟩) 7).layFits Tryz.prog (Rows.fontEachUptoRow.laid.filter fun x => (["unicode/utf8.acceptRanges", "foliant/inflate.order", "unicode.White_Space", "strings.asciiSpace", "foliant/ascii.powers", "unicode/utf8.first"] : List String).contains x.1) [7, (World.holding Tryz.prog os ⟨#[], #[], []⟩).heap.size] = true := by kernel_rfl
theorem ifaces (os : Os) : (layReps (World.holding Tryz.prog os ⟨#[], #[], []⟩) 7).layIfaces Tryz.prog (Rows.fontEachUptoRow.laid.filter fun x => (["unicode/utf8.acceptRanges", "foliant/inflate.order", "unicode.White_Space", "strings.asciiSpace", "foliant/ascii.powers", "unicode/utf8.first"] : List String).contains x.1) (laidWorld os) = true := by kernel_rfl
theorem laid_met (os : Os) : laidMet Tryz.prog Rows.fontEachUptoRow.laid ((laidWorld os).forCall (fun _ _ => 0) ⟨#[], #[.agg #[.string ⟨#[]⟩, .bool false, .int .i64 0, .slice none 0 0, .int .i64 0, .slice none 0 0, .slice none 0 0], .string ⟨#[]⟩], []⟩).memory :=
 by
  have h : laidMet Tryz.prog Rows.fontEachUptoRow.laid (laidWorld os) := laidMet_layVars (w0 := (layReps (World.holding Tryz.prog os ⟨#[], #[], []⟩) 7)) ["unicode/utf8.acceptRanges", "foliant/inflate.order", "unicode.White_Space", "strings.asciiSpace", "foliant/ascii.powers", "unicode/utf8.first"] [7, (World.holding Tryz.prog os ⟨#[], #[], []⟩).heap.size] rfl (fits os) (ifaces os) (LaidIn.of_run _ 8 (by kernel_rfl) (by kernel_rfl) (by kernel_rfl) (by kernel_rfl))
  exact h.of_heap (by simp [World.memory, World.forCall, Input.heap])
theorem reads (os : Os) {H : Type} (enc : TypeId × Value → H) : ∃ places, DataW.whole enc Tryz.prog ((laidWorld os).forCall (fun _ _ => 0) ⟨#[], #[.agg #[.string ⟨#[]⟩, .bool false, .int .i64 0, .slice none 0 0, .int .i64 0, .slice none 0 0, .slice none 0 0], .string ⟨#[]⟩], []⟩).memory Tryz.f4.params.toList Rows.fontEachSpec.vars false #[.agg #[.string ⟨#[]⟩, .bool false, .int .i64 0, .slice none 0 0, .int .i64 0, .slice none 0 0, .slice none 0 0], .string ⟨#[]⟩].toList 8 = some ([.agg [.lit (.string []), .lit (.bool false), .lit (.int .i64 0), .nil, .lit (.int .i64 0), .nil, .nil], .lit (.string [])], [], places) :=
  ⟨[], by kernel_rfl⟩

set_option maxRecDepth 100000 in
theorem lifted (os : Os) (started : os.Started) (H : Type) (enc : TypeId × Value → H) (F : Stop.Interp) :
    ReturnsInHanded {} Tryz.checked os 4 .any ((Rows.OpenSpec.upto Rows.fontEachSpec).preRow enc Tryz.prog Tryz.f4 Rows.fontEachUptoRow.domain false Rows.fontEachUptoRow.laid) (((Rows.OpenSpec.upto Rows.fontEachSpec).at F).post enc Tryz.prog Tryz.f4 false true false false) := by
  obtain ⟨places, hx⟩ := reads os enc
  refine returnsInHanded_of_row (C := Tryz.checked) (s := Rows.OpenSpec.upto Rows.fontEachSpec) own started (by kernel_rfl) Tryz.func4
    (witness_row_atRef (enc := enc) (C := Tryz.checked) false (laidWorld os) #[.agg #[.string ⟨#[]⟩, .bool false, .int .i64 0, .slice none 0 0, .int .i64 0, .slice none 0 0, .slice none 0 0], .string ⟨#[]⟩] (World.layVars_os _ _ _) (by kernel_rfl) (by kernel_rfl) (by kernel_rfl)
      (OpenSpec.preRow_of_cond 8 hx (by kernel_rfl) (fun k hk => by cases hk; kernel_rfl) (by kernel_rfl) (laid_met os))) ?_
  intro W base args ds gs before hval hW _ hcond _ hL _ _
  exact contract H enc W base args ds gs before hval hW hL (hcond _ rfl)
theorem said : Rows.FontEachUptoSaid :=
  OpenClaim.holds_of_cond 4 Tryz.f4 rfl rfl rfl rfl rfl rfl rfl ⟨rfl, rfl, rfl, rfl, rfl⟩ rfl rfl rfl rfl rfl (by kernel_rfl) Tryz.func4 closed
    (of_decide_eq_true (by kernel_rfl)) (by unfold Func.isWrapper; first | (rw [if_pos (by decide +kernel)]; kernel_rfl) | (rw [if_neg (by decide +kernel)]; exact ⟨rfl, rfl⟩))
    (fun os started H enc _ F => by rw [OpenClaim.pre_eq_preRow]; exact lifted os started H enc F)
theorem plain (f : FuncId) (fn : Func) (hf : Tryz.pinned.checked.prog.funcNamed "foliant/foliantlaw47.FontEach" = some f) (hfn : Tryz.pinned.checked.prog.funcs[f]? = some fn) :
    true = Tryz.pinned.checked.prog.looks [] ∧ ∀ (j : Nat) t, fn.params[j]? = some t → Tryz.pinned.checked.prog.wantsStandIn t = false := by
  obtain rfl : f = 4 := Option.some.inj ((show Tryz.prog.funcNamed "foliant/foliantlaw47.FontEach" = some 4 by kernel_rfl).symm.trans hf) |>.symm
  obtain rfl : fn = Tryz.f4 := (Option.some.inj (Tryz.func4.symm.trans hfn)).symm
  refine ⟨by kernel_rfl, fun j t ht => ?_⟩
  rw [Tryz.params4] at ht
  have hall : #[26, 9].all (fun t => !(Tryz.prog.wantsStandIn t)) = true := by kernel_rfl
  have := Array.all_eq_true_iff_forall_mem.1 hall t (Array.mem_of_getElem? ht)
  show Tryz.prog.wantsStandIn t = false
  simpa using this
end RowFontEach
/-- THE CARD. -/
theorem fontEach_card : Rows.FontEachUptoCardSaid :=
  Claim7.holds_tied_plain_at .later [] _ _ _ _ RowFontEach.said (fun _ h => by cases h) RowFontEach.wf (fun _ h => by cases h) fontEachUpto_row_tie rfl ⟨rfl, rfl⟩ (by kernel_rfl) rfl RowFontEach.plain RowFontEach.goes
end Go.Proofs.YtmkodaephgnehaaGreatDoor
