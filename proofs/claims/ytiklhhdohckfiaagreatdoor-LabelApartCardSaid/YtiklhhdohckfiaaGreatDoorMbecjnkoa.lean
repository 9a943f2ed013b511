/- Texts that go together: LbM LbN LbO. -/
import Derived.Test.YtiklhhdohckfiaaGreatDoorMjggdabcl
import Derived.Test.YtiklhhdohckfiaaGreatDoorMjhfdamlk
import Derived.Test.YtiklhhdohckfiaaGreatDoorMbojonekf
import Derived.Test.YtiklhhdohckfiaaGreatDoorMmkkfpika
import Derived.Test.YtiklhhdohckfiaaGreatDoorMblgjjdnd
namespace Go.Proofs.YtiklhhdohckfiaaGreatDoor
set_option linter.unusedVariables false
set_option linter.unusedSimpArgs false
set_option linter.defProp false
set_option maxRecDepth 20000
open Eng Go.RowKit

section
variable {P : Program} {S : World → Prop} {K : Value → Prop}
theorem hd_ieq {T : TypeId} {xo yo : Operand} {k : IntKind} {a b : Int} (h : K (.bool (decide (a = b)))) : HDo P S (mEq .eql T xo yo (.int k a) (.int k b)) K := hd_pure _ (fun _ => mv_run (by simp [eqGuard, binOp, Op.intCmp, int_beq])) h
theorem hd_seq {T : TypeId} {xo yo : Operand} {a b : List UInt8} (h : K (.bool (decide (a = b)))) : HDo P S (mEq .eql T xo yo (.string ⟨a.toArray⟩) (.string ⟨b.toArray⟩)) K := by
  refine hd_pure _ (fun _ => mv_run ?_) h
  have e : (a == b) = decide (a = b) := by by_cases h : a = b <;> simp [h]
  simp [eqGuard, binOp, Op.stringOp, str_toList, e]
theorem hd_pt {a b : Value} (h : K a) : HDo P S (mPick (.bool true) a b) K := hd_pure _ (fun _ => by simp [mPick, asBool]) h
theorem hd_str {T : TypeId} {xo yo : Operand} {a : List UInt8} (h : K (.bool true)) : HDo P S (mEq .eql T xo yo (.string ⟨a.toArray⟩) (.string ⟨a.toArray⟩)) K := hd_seq (by rw [decide_eq_true rfl]; exact h)
theorem hd_int {T : TypeId} {xo yo : Operand} {k : IntKind} {a : Int} (h : K (.bool true)) : HDo P S (mEq .eql T xo yo (.int k a) (.int k a)) K := hd_ieq (by rw [decide_eq_true rfl]; exact h)
end
theorem sml_1 : Lb.roman 1994 = [77, 67, 77, 88, 67, 73, 86] := by decide +kernel
theorem sml_2 : Lb.roman 4000 = [] := by decide +kernel
theorem sml_3 : Lb.letters 28 = [66, 66] := by decide +kernel
theorem sml_4 : Lb.letters 677 = [] := by decide +kernel
theorem sml_5 : Lb.text Lb.two 1 = [105, 105] := by decide +kernel
theorem sml_6 : Lb.text Lb.two 3 = [50] := by decide +kernel
theorem sml_7 : Lb.text [] 0 = [49] := by decide +kernel
theorem sml_8 : Lb.text Lb.two (-1) = [] := by decide +kernel
theorem sml_9 : (Lb.set Lb.docS Lb.two).2 = 0 := by decide +kernel
theorem sml_10 : Dk.same (Lb.set Lb.docS []).1 Lb.docS = true := by decide +kernel
theorem sml_11 : Lb.read Lb.docS = ([], 0) := by decide +kernel
theorem sml_12 : Lb.read Dk.dc0 = ([], 10) := by decide +kernel
theorem sml_13 : Lb.check [⟨0, [120], [], 1⟩] = 1 := by decide +kernel
theorem docS_sm : Lb.Sm 1000 Lb.docS := by
  refine ⟨by decide, fun i hi => ?_, by decide +kernel⟩
  have : i = Lb.itS := by simpa [Lb.docS] using hi
  rw [this]; decide +kernel
theorem fit_two : Lb.Fit Lb.two := ⟨by decide, by decide⟩
theorem fit_nil : Lb.Fit [] := ⟨by decide, by decide⟩
theorem llives_ret (w : World) (ht : Tb w) : Ret Tryz.prog 21 #[] w (fun v w' => v = .bool true ∧ Below w.heap.size w w') := by
  refine ret_of fun K hK => S_foliantlaw38_lives_ok ?_
  unfold S_foliantlaw38_lives
  have hM := Mem.all_has w
  generalize Mem.all w = M at hM
  have ho : OwnS M.A w w [.mem M] := OwnS.memS hM
  have s1 := docS_sm
  have s2 : Lb.Sm 3001000 (Lb.set Lb.docS Lb.two).1 := Lb.set_sm s1 (by omega)
  have s3 : Lb.Sm 6001000 (Lb.set (Lb.set Lb.docS Lb.two).1 []).1 := Lb.set_sm s2 (by omega)
  obtain ⟨bk1, bk2, bk3, bk4⟩ := Lb.set_back sml_9
  refine c_mem ho 0 rfl (sample_ret M w hM) fun x N1 w1 hle1 hx ho => ?_
  refine c_mem ho 0 rfl (two_ret N1 w1 (ho.hasM 0 rfl)) fun y N2 w2 hle2 hy ho => ?_
  refine c_mem ho 0 rfl (lset_ret Lb.docS Lb.two x y N2 w2 (s1.ok (by omega)) (by decide) (fun i hi => by have := s1.items i hi; omega) fit_two (ho.hasM 0 rfl) (hx.le hle2) hy) ?_
  rintro _ N3 w3 hle3 ⟨d, rfl, hd⟩ ho
  rw [sml_9]
  obtain ⟨di, dk, dc, dcs, rfl, hda⟩ := hd
  simp only [errV, ex]
  refine o_dca ho fun b1 w4 ho => ?_
  refine dc_put 0 hda.items.one hda.trailer.oneK hda.trailer.oneC ho rfl fun w5 ho => ?_
  have ho : OwnS M.A w w5 [dcE b1 (Lb.set Lb.docS Lb.two).1 di dk dc, .mem N3] := ho
  rw [dc_v ho 0 rfl]
  refine c_mem ho 1 rfl (lread_ret (Lb.set Lb.docS Lb.two).1 _ N3 w5 (s2.ok (by omega)) (ho.hasM 1 rfl) hda.dv) ?_
  rintro _ N4 w6 hle4 ⟨lv, rfl, hlv⟩ ho
  rw [bk1] at hlv ⊢
  simp only [errV, ex]
  rw [dc_v ho 0 rfl]
  refine c_mem ho 1 rfl (lset_ret (Lb.set Lb.docS Lb.two).1 [] _ nilS N4 w6 (s2.ok (by omega)) (by have := s2.len; omega) (fun i hi => by have := s2.items i hi; omega) fit_nil (ho.hasM 1 rfl) (hda.dv.le hle4) (lb_nil _)) ?_
  rintro _ N5 w7 hle5 ⟨e, rfl, he⟩ ho
  rw [bk2]
  obtain ⟨ei, ek, ec, ecs, rfl, hea⟩ := he
  simp only [errV, ex]
  refine o_dca ho fun b5 w8 ho => ?_
  refine dc_put 0 hea.items.one hea.trailer.oneK hea.trailer.oneC ho rfl fun w9 ho => ?_
  refine c_mem ho 2 rfl (sample_ret N5 w9 (ho.hasM 2 rfl)) fun x2 N6 w10 hle6 hx2 ho => ?_
  refine c_mem ho 2 rfl (lread_ret Lb.docS x2 N6 w10 (s1.ok (by omega)) (ho.hasM 2 rfl) hx2) ?_
  rintro _ N7 w11 hle7 ⟨lm, rfl, hlm⟩ ho
  rw [sml_11] at hlm ⊢
  simp only [errV, ex]
  rw [m_dc0]
  refine c_mem ho 2 rfl (lread_ret Dk.dc0 _ N7 w11 ((Lb.sm0 (B := 6) (by omega)).ok (by omega)) (ho.hasM 2 rfl) (dc0_at N7).dv) ?_
  rintro _ N8 w12 hle8 ⟨lo, rfl, hlo⟩ ho
  rw [sml_12] at hlo ⊢
  simp only [errV, ex]
  have ho : OwnS M.A w w12 [dcE b5 (Lb.set (Lb.set Lb.docS Lb.two).1 []).1 ei ek ec, dcE b1 (Lb.set Lb.docS Lb.two).1 di dk dc, .mem N8] := ho
  have ho := ho.drew
  have bl : ∀ {W : World} {N : Mem} {L : List Ent}, OwnS M.A w W (dcE b5 (Lb.set (Lb.set Lb.docS Lb.two).1 []).1 ei ek ec :: dcE b1 (Lb.set Lb.docS Lb.two).1 di dk dc :: .mem N :: L) → M.le N → Below w.heap.size w W := fun ho hle => (ho.toGives 2 rfl hle hM).below
  have l8 : M.le N8 := ((((((hle1.trans hle2).trans hle3).trans hle4).trans hle5).trans hle6).trans hle7).trans hle8
  refine ⟨(dcE b5 (Lb.set (Lb.set Lb.docS Lb.two).1 []).1 ei ek ec).is, ho.at_ 0 rfl, ?_⟩
  refine c_below ho (R := fun v => v = .string ⟨(Lb.roman 1994).toArray⟩) (lroman_ret 1994 _) ?_
  rintro _ w13 rfl ho
  rw [sml_1]
  refine ⟨ho.at_ 0 rfl, hd_str ?_⟩
  try simp only [rs]
  refine c_below ho (R := fun v => v = .string ⟨(Lb.roman 4000).toArray⟩) (lroman_ret 4000 _) ?_
  rintro _ w14 rfl ho
  rw [sml_2]
  refine ⟨ho.at_ 0 rfl, ?_⟩
  try simp only [gq]
  refine hd_str (hd_pt ?_)
  try simp only [rs]
  refine c_below ho (R := fun v => v = .string ⟨(Lb.letters 28).toArray⟩) (lletters_ret 28 (by omega) _) ?_
  rintro _ w15 rfl ho
  rw [sml_3]
  refine ⟨ho.at_ 0 rfl, ?_⟩
  try simp only [gq]
  refine hd_str (hd_pt ?_)
  try simp only [rs]
  refine c_below ho (R := fun v => v = .string ⟨(Lb.letters 677).toArray⟩) (lletters_ret 677 (by omega) _) ?_
  rintro _ w16 rfl ho
  rw [sml_4]
  refine ⟨ho.at_ 0 rfl, ?_⟩
  try simp only [gq]
  refine hd_str (hd_pt ?_)
  try simp only [rs]
  refine c_mem ho 2 rfl (two_ret N8 w16 (ho.hasM 2 rfl)) fun y9 N9 w17 hle9 hy9 ho => ?_
  have l9 := l8.trans hle9
  refine ⟨ho.at_ 0 rfl, ?_⟩
  try simp only [rs]
  refine c_below ho (R := fun v => v = .string ⟨(Lb.text Lb.two 1).toArray⟩) (ltext_ret Lb.two 1 y9 N9 w17 fit_two (ho.hasM 2 rfl) hy9 (ht.mono (bl ho l9))) ?_
  rintro _ w18 rfl ho
  rw [sml_5]
  refine ⟨ho.at_ 0 rfl, ?_⟩
  try simp only [gq]
  refine hd_str (hd_pt ?_)
  try simp only [rs]
  refine c_mem ho 2 rfl (two_ret N9 w18 (ho.hasM 2 rfl)) fun y10 N10 w19 hle10 hy10 ho => ?_
  have l10 := l9.trans hle10
  refine ⟨ho.at_ 0 rfl, ?_⟩
  try simp only [rs]
  refine c_below ho (R := fun v => v = .string ⟨(Lb.text Lb.two 3).toArray⟩) (ltext_ret Lb.two 3 y10 N10 w19 fit_two (ho.hasM 2 rfl) hy10 (ht.mono (bl ho l10))) ?_
  rintro _ w20 rfl ho
  rw [sml_6]
  refine ⟨ho.at_ 0 rfl, ?_⟩
  try simp only [gq]
  refine hd_str (hd_pt ?_)
  try simp only [rs]
  refine c_below ho (R := fun v => v = .string ⟨(Lb.text [] 0).toArray⟩) (ltext_ret [] 0 nilS N10 w20 fit_nil (ho.hasM 2 rfl) (lb_nil _) (ht.mono (bl ho l10))) ?_
  rintro _ w21 rfl ho
  rw [sml_7]
  refine ⟨ho.at_ 0 rfl, ?_⟩
  try simp only [gq]
  refine hd_str (hd_pt ?_)
  try simp only [rs]
  refine c_mem ho 2 rfl (two_ret N10 w21 (ho.hasM 2 rfl)) fun y11 N11 w22 hle11 hy11 ho => ?_
  have l11 := l10.trans hle11
  refine ⟨ho.at_ 0 rfl, ?_⟩
  try simp only [rs]
  refine c_below ho (R := fun v => v = .string ⟨(Lb.text Lb.two (-1)).toArray⟩) (ltext_ret Lb.two (-1) y11 N11 w22 fit_two (ho.hasM 2 rfl) hy11 (ht.mono (bl ho l11))) ?_
  rintro _ w23 rfl ho
  rw [sml_8]
  refine ⟨ho.at_ 0 rfl, ?_⟩
  try simp only [gq]
  refine hd_str (hd_pt ?_)
  try simp only [gq]
  refine hd_int (hd_pt ?_)
  try simp only [gq]
  refine hd_int (hd_pt ?_)
  try simp only [gq, rs]
  refine c_mem ho 2 rfl (two_ret N11 w23 (ho.hasM 2 rfl)) fun y12 N12 w24 hle12 hy12 ho => ?_
  have l12 := l11.trans hle12
  refine ⟨ho.at_ 0 rfl, ?_⟩
  try simp only [rs]
  have h4 : N4.le N12 := ((((((hle5.trans hle6).trans hle7).trans hle8).trans hle9).trans hle10).trans hle11).trans hle12
  refine c_below ho (R := fun v => v = .bool (decide (Lb.two = Lb.two))) (lsame_ret lv y12 Lb.two Lb.two N12 w24 (ho.hasM 2 rfl) (hlv.le h4) hy12 (by decide)) ?_
  rintro _ w25 rfl ho
  rw [decide_eq_true (rfl : Lb.two = Lb.two)]
  refine ⟨ho.at_ 0 rfl, hd_pt ?_⟩
  try simp only [gq]
  refine hd_int (hd_pt ?_)
  try simp only [gq]
  refine hd_do (dcV (Lb.set (Lb.set Lb.docS Lb.two).1 []).1 ei ek ec) (fun W h => run_load_at (AtV.agg aggDc (cs := dcC (Lb.set (Lb.set Lb.docS Lb.two).1 []).1 ei ek ec) rfl fun j u hj => by rw [Nat.zero_add]; exact cells_cell (T := 44) h hj)) ?_
  try simp only [rs]
  refine c_mem ho 2 rfl (sample_ret N12 w25 (ho.hasM 2 rfl)) fun x13 N13 w26 hle13 hx13 ho => ?_
  have l13 := l12.trans hle13
  refine ⟨ho.at_ 0 rfl, ?_⟩
  try simp only [rs]
  have h5 : N5.le N13 := (((((((hle6.trans hle7).trans hle8).trans hle9).trans hle10).trans hle11).trans hle12).trans hle13)
  refine c_below ho (R := fun v => v = .bool (Dk.same (Lb.set (Lb.set Lb.docS Lb.two).1 []).1 Lb.docS)) (rsameD_ret _ _ _ _ N13 w26 (by have := s3.len; omega) (fun i hi => by have := s3.items i hi; omega) (by have := s3.trailer; omega) (ho.hasM 2 rfl) (hea.dv.le h5) hx13) ?_
  rintro _ w27 rfl ho
  rw [bk4, sml_10]
  refine ⟨ho.at_ 0 rfl, hd_pt ?_⟩
  try simp only [gq]
  refine hd_int (hd_pt ?_)
  try simp only [gq]
  refine hd_pure (.int .i64 (([] : List Lx).length : Int)) (fun W => ?_) ?_
  · obtain ⟨a, cap, rfl, _⟩ := hlm.form
    exact run_len_sl Tryz.underlying46
  refine hd_int (a := 0) (hd_pt ?_)
  try simp only [gq]
  refine hd_int (hd_pt ?_)
  try simp only [gq]
  refine hd_pure (lbV ⟨0, [120], [], 1⟩) (fun W => by kernel_rfl) ?_
  try simp only [rs]
  refine o_lbs1 ⟨0, [120], [], 1⟩ ho fun b14 w28 ho => ?_
  refine ⟨ho.at_ 1 rfl, ?_⟩
  try simp only [rs]
  obtain ⟨N14, hle14, hrow, ho2⟩ := OwnS.freezeU (L := [dcE b5 (Lb.set (Lb.set Lb.docS Lb.two).1 []).1 ei ek ec, dcE b1 (Lb.set Lb.docS Lb.two).1 di dk dc, .mem N13]) (OwnS.toU (cs := lbC ⟨0, [120], [], 1⟩) ho 4 1 1 rfl (by omega) (by omega)) 2 rfl
  have ho : OwnS M.A w w28 [dcE b5 (Lb.set (Lb.set Lb.docS Lb.two).1 []).1 ei ek ec, dcE b1 (Lb.set Lb.docS Lb.two).1 di dk dc, .mem N14] := ho2
  have l14 := l13.trans hle14
  refine c_below ho (R := fun v => v = .int .i64 (Lb.check [⟨0, [120], [], 1⟩])) (lcheck_ret [⟨0, [120], [], 1⟩] _ N14 w28 ⟨by decide, by decide⟩ (ho.hasM 2 rfl) hrow) ?_
  rintro _ w29 rfl ho
  rw [sml_13]
  refine ⟨ho.at_ 0 rfl, ?_⟩
  try simp only [gq]
  refine hd_int (hd_pt ?_)
  exact hK _ _ ⟨rfl, bl ho l14⟩
end Go.Proofs.YtiklhhdohckfiaaGreatDoor
namespace Go.Proofs.YtiklhhdohckfiaaGreatDoor
set_option linter.unusedVariables false
set_option linter.unusedSimpArgs false
set_option linter.defProp false
set_option maxRecDepth 20000
open Eng Go.RowKit

theorem labelReads_ret (d : Dc) (dv : Value) (w : World) (ht : Tb w) (hdv : DV (InW w) w dv d) (hsm : Lb.Sm 1048576 d) (hsz : Dk.size d ≤ 1000000000) : Ret Tryz.prog 6 #[dv] w (fun v w' => v = .bool true ∧ Below w.heap.size w w') := by
  have hM := Mem.all_has w
  have hdv : DV (Mem.all w).A (Mem.all w).w dv d := hdv
  generalize Mem.all w = M at hM hdv
  have hd := hsm.ok (by omega)
  obtain ⟨vi, dk, dc, dcs, rfl, hda⟩ := hdv
  refine ret_of fun K hK => S_foliantlaw38_LabelReads_ok ?_
  unfold S_foliantlaw38_LabelReads
  refine o_dcb d hda.items.one hda.trailer.oneK hda.trailer.oneC (OwnS.memS hM) fun b1 w1 ho => ?_
  have bl : ∀ {W : World} {N : Mem} {L : List Ent}, OwnS M.A w W (dcE b1 d vi dk dc :: .mem N :: L) → M.le N → Below w.heap.size w W := fun ho hle => (ho.toGives 1 rfl hle hM).below
  rw [dc_v ho 0 rfl]
  refine c_mem ho 1 rfl (small_retL d _ M w1 hd (by omega) (ho.hasM 1 rfl) hda.dv) ?_
  rintro _ N w2 hle ⟨b, rfl⟩ ho
  cases b with
  | false =>
    simp only [rs, Bool.not_false]
    refine c_below ho (R := fun v => v = .bool true) (llives_ret w2 (ht.mono (bl ho hle))) ?_
    rintro _ w3 rfl ho
    exact hK _ _ ⟨rfl, bl ho hle⟩
  | true =>
    simp only [rs, Bool.not_true]
    rw [dc_v ho 0 rfl]
    refine c_mem ho 1 rfl (lread_ret d _ N w2 hd (ho.hasM 1 rfl) (hda.le hle).dv) ?_
    rintro _ N2 w3 hle2 ⟨x, rfl, hx⟩ ho
    simp only [errV, ex]
    rw [dc_v ho 0 rfl]
    have h2 := hle.trans hle2
    refine c_mem ho 1 rfl (rreadL_ret d _ N2 w3 hd (ho.hasM 1 rfl) (hda.le h2).dv) ?_
    rintro _ N3 w4 hle3 ⟨y, rfl, hy⟩ ho
    have h3 := h2.trans hle3
    simp only [errV, ex]
    refine c_below ho (R := fun v => v = .bool (decide ((Lb.read d).1 = (Lb.read d).1))) (lsame_ret x y _ _ N3 w4 (ho.hasM 1 rfl) (hx.le hle3) hy ?_) ?_
    · have := Lb.read_len d
      omega
    rintro _ w5 rfl ho
    rw [decide_eq_true (rfl : (Lb.read d).1 = (Lb.read d).1)]
    simp only [rs, decide_true]
    refine c_below ho (R := fun v => v = .bool true) (llives_ret w5 (ht.mono (bl ho h3))) ?_
    rintro _ w6 rfl ho
    try simp only [rs]
    exact hK _ _ ⟨rfl, bl ho h3⟩
theorem labelTells_ret (l : List Lx) (page n : Int) (v : Value) (w : World) (ht : Tb w) (hs : SlA (InW w) w v 4 l.length (lbsC l)) (hf : Lb.Fit l) (hn0 : -9223372036854775808 ≤ n) (_hn1 : n ≤ 9223372036854775807) : Ret Tryz.prog 8 #[v, .int .i64 page, .int .i64 n] w (fun v w' => v = .bool true ∧ Below w.heap.size w w') := by
  have hM := Mem.all_has w
  have hs : SlA (Mem.all w).A (Mem.all w).w v 4 l.length (lbsC l) := hs
  generalize Mem.all w = M at hM hs
  refine ret_of fun K hK => S_foliantlaw38_LabelTells_ok ?_
  unfold S_foliantlaw38_LabelTells
  have bl : ∀ {W : World} {N : Mem} {L : List Ent}, OwnS M.A w W (.mem N :: L) → M.le N → Below w.heap.size w W := fun ho hle => (ho.toGives 0 rfl hle hM).below
  refine c_mem (OwnS.memS hM) 0 rfl (light_retL l v M w hf.1 hM hs) ?_
  rintro _ N w2 hle ⟨b, rfl⟩ ho
  have ho : OwnS M.A w w2 [.mem N] := ho
  have hsN := hs.le hle
  cases b with
  | false =>
    simp only [rs, Bool.not_false]
    refine c_below ho (R := fun v => v = .bool true) (llives_ret w2 (ht.mono (bl ho hle))) ?_
    rintro _ w3 rfl ho
    exact hK _ _ ⟨rfl, bl ho hle⟩
  | true =>
  simp only [rs, Bool.not_true]
  refine c_below ho (R := fun v => v = .string ⟨(Lb.text l page).toArray⟩) (ltext_ret l page v N w2 hf (ho.hasM 0 rfl) hsN (ht.mono (bl ho hle))) ?_
  rintro _ w3 rfl ho
  refine c_below ho (R := fun v => v = .string ⟨(Lb.text l page).toArray⟩) (rtextL_ret l page v N w3 hf (ho.hasM 0 rfl) hsN) ?_
  rintro _ w4 rfl ho
  try simp only [rs, decide_true]
  refine c_below ho (R := fun v => v = .string ⟨(Lb.roman n).toArray⟩) (lroman_ret n w4) ?_
  rintro _ w5 rfl ho
  try simp only [rs]
  refine c_below ho (R := fun v => v = .string ⟨(Lb.roman n).toArray⟩) (rroman_ret n w5) ?_
  rintro _ w6 rfl ho
  try simp only [rs, decide_true]
  refine c_below ho (R := fun v => v = .string ⟨(Lb.letters n).toArray⟩) (lletters_ret n hn0 w6) ?_
  rintro _ w7 rfl ho
  try simp only [rs]
  refine c_below ho (R := fun v => v = .string ⟨(Lb.letters n).toArray⟩) (rletters_ret n hn0 w7) ?_
  rintro _ w8 rfl ho
  try simp only [rs, decide_true]
  refine c_below ho (R := fun v => v = .bool true) (llives_ret w8 (ht.mono (bl ho hle))) ?_
  rintro _ w9 rfl ho
  try simp only [rs]
  exact hK _ _ ⟨rfl, bl ho hle⟩
theorem roman_inj {a b : Int} (ha : Lb.roman a ≠ []) (hb : Lb.roman b ≠ []) : decide (Lb.roman a = Lb.roman b) = decide (a = b) := by
  have r : ∀ {n : Int}, Lb.roman n ≠ [] → 1 ≤ n ∧ n ≤ 3999 := fun {n} h => by
    by_cases h1 : n < 1 ∨ 3999 < n
    · exact absurd (Lb.roman_out h1) h
    · omega
  by_cases h : a = b
  · subst h; simp
  · rw [decide_eq_false h, decide_eq_false]
    intro e
    have h1 := (Lb.roman_at (r ha).1 (r ha).2).1
    have h2 := (Lb.roman_at (r hb).1 (r hb).2).1
    rw [e] at h1; omega
theorem letters_inj {a b : Int} (ha : Lb.letters a ≠ []) (hb : Lb.letters b ≠ []) : decide (Lb.letters a = Lb.letters b) = decide (a = b) := by
  have r : ∀ {n : Int}, Lb.letters n ≠ [] → 1 ≤ n ∧ n ≤ 676 := fun {n} h => by
    by_cases h1 : n < 1 ∨ 676 < n
    · exact absurd (Lb.letters_out h1) h
    · omega
  by_cases h : a = b
  · subst h; simp
  · rw [decide_eq_false h, decide_eq_false]
    intro e
    have h1 := (Lb.letters_at (r ha).1 (r ha).2).1
    have h2 := (Lb.letters_at (r hb).1 (r hb).2).1
    rw [e] at h1; omega
theorem labelApart_ret (a b : Int) (w : World) (ht : Tb w) (ha0 : -9223372036854775808 ≤ a) (hb0 : -9223372036854775808 ≤ b) : Ret Tryz.prog 10 #[.int .i64 a, .int .i64 b] w (fun v w' => v = .bool true ∧ Below w.heap.size w w') := by
  refine ret_of fun K hK => S_foliantlaw38_LabelApart_ok ?_
  unfold S_foliantlaw38_LabelApart
  refine c_told (lroman_ret a w) rfl (Own.start w) fun w1 ho => ?_
  refine c_told (lroman_ret b w1) rfl ho fun w2 ho => ?_
  refine c_told (lletters_ret a ha0 w2) rfl ho fun w3 ho => ?_
  refine c_told (lletters_ret b hb0 w3) rfl ho fun w4 ho => ?_
  have fin : ∀ {PK : List PanicEntry → World → Prop}, CallX Tryz.prog 21 #[] w4 PK fun t W => K (.returned t) W := by
    intro PK
    refine c_told (llives_ret w4 (ht.own ho)) rfl ho fun w5 ho => ?_
    exact hK _ _ ⟨rfl, ho.done⟩
  have L1 : decide (((Lb.roman a).length : Int) ≤ 15) = true := decide_eq_true (by have := roman_len a; omega)
  have L2 : decide (((Lb.letters a).length : Int) ≤ 26) = true := decide_eq_true (by have := letters_len a; omega)
  by_cases k1 : a < 1
  · have k2 : ¬ 3999 < a := by omega
    have k3 : ¬ 676 < a := by omega
    have hR : Lb.roman a = [] := (Lb.roman_out (by omega))
    have hL : Lb.letters a = [] := (Lb.letters_out (by omega))
    simp only [rs, g_un, e_bool Tryz.underlying4, n_bool Tryz.underlying4, beq_self_eq_true, Bool.not_true, Bool.not_false, s_len Tryz.underlying9, L1, L2, decide_eq_true k1, decide_eq_false k2, decide_eq_false k3, decide_eq_true hR, decide_eq_true hL]
    exact fin
  by_cases k2 : 3999 < a
  · have k3 : 676 < a := by omega
    have hR : Lb.roman a = [] := (Lb.roman_out (by omega))
    have hL : Lb.letters a = [] := (Lb.letters_out (by omega))
    simp only [rs, g_un, e_bool Tryz.underlying4, n_bool Tryz.underlying4, beq_self_eq_true, Bool.not_true, Bool.not_false, s_len Tryz.underlying9, L1, L2, decide_eq_false k1, decide_eq_true k2, decide_eq_true k3, decide_eq_true hR, decide_eq_true hL]
    exact fin
  by_cases k3 : 676 < a
  · have hR : ¬ Lb.roman a = [] := (Lb.roman_at (n := a) (by omega) (by omega)).2.1
    have hL : Lb.letters a = [] := (Lb.letters_out (by omega))
    by_cases hRb : Lb.roman b = []
    · simp only [rs, g_un, e_bool Tryz.underlying4, n_bool Tryz.underlying4, beq_self_eq_true, Bool.not_true, Bool.not_false, s_len Tryz.underlying9, L1, L2, decide_eq_false k1, decide_eq_false k2, decide_eq_true k3, decide_eq_false hR, decide_eq_true hL, decide_eq_true hRb]
      exact fin
    · simp only [rs, g_un, e_bool Tryz.underlying4, n_bool Tryz.underlying4, beq_self_eq_true, Bool.not_true, Bool.not_false, s_len Tryz.underlying9, L1, L2, decide_eq_false k1, decide_eq_false k2, decide_eq_true k3, decide_eq_false hR, decide_eq_true hL, decide_eq_false hRb, roman_inj hR hRb]
      exact fin
  · have hR : ¬ Lb.roman a = [] := (Lb.roman_at (n := a) (by omega) (by omega)).2.1
    have hL : ¬ Lb.letters a = [] := (Lb.letters_at (n := a) (by omega) (by omega)).2.1
    by_cases hRb : Lb.roman b = []
    · by_cases hLb : Lb.letters b = []
      · simp only [rs, g_un, e_bool Tryz.underlying4, n_bool Tryz.underlying4, beq_self_eq_true, Bool.not_true, Bool.not_false, s_len Tryz.underlying9, L1, L2, decide_eq_false k1, decide_eq_false k2, decide_eq_false k3, decide_eq_false hR, decide_eq_false hL, decide_eq_true hRb, decide_eq_true hLb]
        exact fin
      · simp only [rs, g_un, e_bool Tryz.underlying4, n_bool Tryz.underlying4, beq_self_eq_true, Bool.not_true, Bool.not_false, s_len Tryz.underlying9, L1, L2, decide_eq_false k1, decide_eq_false k2, decide_eq_false k3, decide_eq_false hR, decide_eq_false hL, decide_eq_true hRb, decide_eq_false hLb, letters_inj hL hLb]
        exact fin
    · by_cases hLb : Lb.letters b = []
      · simp only [rs, g_un, e_bool Tryz.underlying4, n_bool Tryz.underlying4, beq_self_eq_true, Bool.not_true, Bool.not_false, s_len Tryz.underlying9, L1, L2, decide_eq_false k1, decide_eq_false k2, decide_eq_false k3, decide_eq_false hR, decide_eq_false hL, decide_eq_false hRb, roman_inj hR hRb, decide_eq_true hLb]
        exact fin
      · simp only [rs, g_un, e_bool Tryz.underlying4, n_bool Tryz.underlying4, beq_self_eq_true, Bool.not_true, Bool.not_false, s_len Tryz.underlying9, L1, L2, decide_eq_false k1, decide_eq_false k2, decide_eq_false k3, decide_eq_false hR, decide_eq_false hL, decide_eq_false hRb, roman_inj hR hRb, decide_eq_false hLb, letters_inj hL hLb]
        exact fin
end Go.Proofs.YtiklhhdohckfiaaGreatDoor
namespace Go.Proofs.YtiklhhdohckfiaaGreatDoor
set_option linter.unusedVariables false
set_option linter.unusedSimpArgs false
set_option linter.defProp false
open Eng Go.RowKit Go.ChangeShapes Go.WideShapes Go.ChangeAt

set_option maxRecDepth 100000
theorem list3d {α : Type} : ∀ {l : List α}, l.length = 3 → ∃ a b c, l = [a, b, c]
  | [a, b, c], _ => ⟨a, b, c, rfl⟩
theorem list2d {α : Type} : ∀ {l : List α}, l.length = 2 → ∃ a b, l = [a, b]
  | [a, b], _ => ⟨a, b, rfl⟩
theorem list8d {α : Type} : ∀ {l : List α}, l.length = 8 → ∃ a b c d e f g h, l = [a, b, c, d, e, f, g, h]
  | [a, b, c, d, e, f, g, h], _ => ⟨a, b, c, d, e, f, g, h, rfl⟩
theorem list7d {α : Type} : ∀ {l : List α}, l.length = 7 → ∃ a b c d e f g, l = [a, b, c, d, e, f, g]
  | [a, b, c, d, e, f, g], _ => ⟨a, b, c, d, e, f, g, rfl⟩
theorem list4d {α : Type} : ∀ {l : List α}, l.length = 4 → ∃ a b c d, l = [a, b, c, d]
  | [a, b, c, d], _ => ⟨a, b, c, d, rfl⟩
section
variable {H : Type} {enc : TypeId × Value → H} {W : World} {sp : Nat → Bool} {held : Bool}
theorem open_item (fuel : Nat) (cs : List Value) (x : DataW H × List MemPlace) (h : DataW.trod enc Tryz.prog W 0 sp held fuel 102 cs = some x) : ∃ i : It, itR (InW W) W cs i ∧ cs.length = 8 ∧ i.obj.wt ≤ Rows.uptoBulk x.1 := by
  obtain ⟨xs, n, rfl, rfl, hl, hxl, hf⟩ := DataW.trod_struct Tryz.underlying102 h
  have c8 : Tryz.prog.cellsOf 102 = 8 := by kernel_rfl
  rw [c8] at hl
  have hxl : xs.length = 3 := hxl
  obtain ⟨x0, x1, x2, rfl⟩ := list3d hxl
  obtain ⟨v0, v1, v2, v3, v4, v5, v6, v7, rfl⟩ := list8d hl
  have e0 := hf 0 _ rfl
  have e1 := hf 1 _ rfl
  have e2 := hf 2 _ rfl
  have k0 : Tryz.prog.cellsOf 3 = 1 := by kernel_rfl
  have k6 : Tryz.prog.cellsOf 25 = 6 := by kernel_rfl
  simp only [k0, k6, List.drop_zero, List.drop_succ_cons, List.take_succ_cons, List.take_zero, List.getElem?_cons_zero, List.getElem?_cons_succ] at e0 e1 e2
  obtain ⟨m, hm, rfl, _⟩ := DataW.trod_int Tryz.underlying3 e0
  obtain ⟨g, hg, rfl, _⟩ := DataW.trod_int Tryz.underlying3 e1
  obtain ⟨o, h1, h2, h3⟩ := open_obj _ _ _ e2
  injection hm with hm _
  injection hg with hg _
  subst hm; subst hg
  obtain ⟨vk, vc, ocs, he, ha⟩ := h1.open
  have he : [v2, v3, v4, v5, v6, v7] = obC o vk vc := by
    have : [v2, v3, v4, v5, v6, v7].toArray = (obC o vk vc).toArray := by injection he
    simpa using congrArg Array.toList this
  refine ⟨⟨m, g, o⟩, ⟨vk, vc, ?_, ha.ov⟩, rfl, ?_⟩
  · show _ = .int .i64 m :: .int .i64 g :: obC o vk vc
    rw [← he]
  · show o.wt ≤ _
    simp only [Rows.uptoBulk, List.map_cons, List.map_nil, Rows.uptoBulkAll]
    omega
theorem wti_le : ∀ {l : List It} {i : It}, i ∈ l → i.obj.wt ≤ (l.map fun i => i.obj.wt).sum
  | a :: l, i, h => by
    rw [List.map_cons, List.sum_cons]
    rcases List.mem_cons.1 h with rfl | h
    · omega
    · have := wti_le h; omega
theorem len_wti : ∀ l : List It, l.length ≤ (l.map fun i => i.obj.wt).sum
  | [] => by simp
  | a :: l => by
    have := len_wti l
    have := a.obj.wt_pos
    rw [List.map_cons, List.sum_cons, List.length_cons]; omega
theorem size_wti : ∀ l : List It, (l.map fun i => Vl.size i.obj).sum ≤ (l.map fun i => i.obj.wt).sum
  | [] => by simp
  | a :: l => by
    have := size_wti l
    have := Vl.size_wt a.obj
    rw [List.map_cons, List.sum_cons, List.map_cons, List.sum_cons]; omega
theorem row_doc {b0 : Nat} {v : Value} {d : DataW H} {ps : List MemPlace} (hval : Value.okWide Tryz.prog W .any b0 44 v) (hd : DataW.Trod enc Tryz.prog W 0 sp held 44 v d ps) :
    ∃ x : Dc, DV (InW W) W v x ∧ Lb.Sm (Rows.uptoBulk d) x ∧ Dk.size x ≤ Rows.uptoBulk d := by
  obtain ⟨cs, rfl, _⟩ := okWide_struct Tryz.underlying44 hval
  obtain ⟨fuel, h⟩ := hd
  have h : DataW.trod enc Tryz.prog W 0 sp held fuel 44 cs.toList = some (d, ps) := h
  obtain ⟨xs, n, rfl, hdd, hl, hxl, hf⟩ := DataW.trod_struct Tryz.underlying44 h
  have c7 : Tryz.prog.cellsOf 44 = 7 := by kernel_rfl
  rw [c7] at hl
  have hxl : xs.length = 2 := hxl
  obtain ⟨x0, x1, rfl⟩ := list2d hxl
  obtain ⟨v0, v1, v2, v3, v4, v5, v6, hcs⟩ := list7d hl
  rw [hcs] at hf
  have e0 := hf 0 _ rfl
  have e1 := hf 1 _ rfl
  have k0 : Tryz.prog.cellsOf 42 = 1 := by kernel_rfl
  have k6 : Tryz.prog.cellsOf 25 = 6 := by kernel_rfl
  simp only [k0, k6, List.drop_zero, List.drop_succ_cons, List.take_succ_cons, List.take_zero, List.getElem?_cons_zero, List.getElem?_cons_succ] at e0 e1
  obtain ⟨v', ds, is, h1, h2, h3, h4, h5⟩ := open_slice_of (R := itR (InW W) W) (wt := fun i => i.obj.wt) (n := 8) Tryz.underlying42 (by kernel_rfl) (by decide) open_item e0
  injection h1 with h1 _
  subst h1
  obtain ⟨o, g1, g2, g3⟩ := open_obj _ _ _ e1
  obtain ⟨vk, vc, ocs, he, ha⟩ := g1.open
  have he : [v1, v2, v3, v4, v5, v6] = obC o vk vc := by
    have : [v1, v2, v3, v4, v5, v6].toArray = (obC o vk vc).toArray := by injection he
    simpa using congrArg Array.toList this
  have hb : Rows.uptoBulk x0.1 + Rows.uptoBulk x1.1 ≤ Rows.uptoBulk d := by
    have hdd : d = _ := congrArg Prod.fst hdd
    rw [hdd]
    simp only [Rows.uptoBulk, List.map_cons, List.map_nil, Rows.uptoBulkAll]
    omega
  have hw : ∀ i ∈ is, i.obj.wt ≤ (is.map fun i => i.obj.wt).sum := fun i hi => wti_le hi
  have hl := len_wti is
  have hz := size_wti is
  have ho := Vl.size_wt o
  refine ⟨⟨is, o⟩, ⟨v0, vk, vc, ds, ?_, h2, h3, ha.ov⟩, ⟨?_, fun i hi => ?_, ?_⟩, ?_⟩
  · rw [dcV, dcC]
    show Value.agg cs = .agg (v0 :: obC o vk vc).toArray
    rw [← he, ← hcs]
  · show is.length ≤ _; omega
  · have := hw i hi; omega
  · show o.wt ≤ _; omega
  · show Vl.size o + (is.map fun i => Vl.size i.obj).sum ≤ _; omega
theorem open_label (fuel : Nat) (cs : List Value) (x : DataW H × List MemPlace) (h : DataW.trod enc Tryz.prog W 0 sp held fuel 90 cs = some x) : ∃ l : Lx, cs = lbC l ∧ cs.length = 4 ∧ l.sty.length + l.pre.length + 1 ≤ Rows.uptoBulk x.1 := by
  obtain ⟨xs, n, rfl, rfl, hl, hxl, hf⟩ := DataW.trod_struct Tryz.underlying90 h
  have c4 : Tryz.prog.cellsOf 90 = 4 := by kernel_rfl
  rw [c4] at hl
  have hxl : xs.length = 4 := hxl
  obtain ⟨x0, x1, x2, x3, rfl⟩ := list4d hxl
  obtain ⟨v0, v1, v2, v3, rfl⟩ := list4d hl
  have e0 := hf 0 _ rfl
  have e1 := hf 1 _ rfl
  have e2 := hf 2 _ rfl
  have e3 := hf 3 _ rfl
  have k0 : Tryz.prog.cellsOf 3 = 1 := by kernel_rfl
  have k3 : Tryz.prog.cellsOf 9 = 1 := by kernel_rfl
  simp only [k0, k3, List.drop_zero, List.drop_succ_cons, List.take_succ_cons, List.take_zero, List.getElem?_cons_zero, List.getElem?_cons_succ] at e0 e1 e2 e3
  obtain ⟨a, ha, rfl, _⟩ := DataW.trod_int Tryz.underlying3 e0
  obtain ⟨s, hs, rfl, _⟩ := DataW.trod_string Tryz.underlying9 e1
  obtain ⟨t, ht, rfl, _⟩ := DataW.trod_string Tryz.underlying9 e2
  obtain ⟨b, hb, rfl, _⟩ := DataW.trod_int Tryz.underlying3 e3
  injection ha with ha _
  injection hs with hs _
  injection ht with ht _
  injection hb with hb _
  subst ha; subst hs; subst ht; subst hb
  refine ⟨⟨a, s.data.toList, t.data.toList, b⟩, rfl, rfl, ?_⟩
  simp only [Rows.uptoBulk, List.map_cons, List.map_nil, Rows.uptoBulkAll]
  omega
theorem lbw_le : ∀ {l : List Lx} {x : Lx}, x ∈ l → x.sty.length + x.pre.length + 1 ≤ (l.map fun x => x.sty.length + x.pre.length + 1).sum
  | a :: l, i, h => by
    rw [List.map_cons, List.sum_cons]
    rcases List.mem_cons.1 h with rfl | h
    · omega
    · have := lbw_le h; omega
theorem len_lbw : ∀ l : List Lx, l.length ≤ (l.map fun x => x.sty.length + x.pre.length + 1).sum
  | [] => by simp
  | a :: l => by
    have := len_lbw l
    rw [List.map_cons, List.sum_cons, List.length_cons]; omega
theorem row_labels {b0 : Nat} {v : Value} {d : DataW H} {ps : List MemPlace} (hval : Value.okWide Tryz.prog W .any b0 46 v) (hd : DataW.Trod enc Tryz.prog W 0 sp held 46 v d ps) :
    ∃ l : List Lx, SlA (InW W) W v 4 l.length (lbsC l) ∧ (Rows.uptoBulk d ≤ 1000000000 → Lb.Fit l) := by
  obtain ⟨a, len, cap, rfl⟩ := okWide_slice Tryz.underlying46 hval
  obtain ⟨fuel, hf⟩ := hd
  obtain ⟨v', ds, xs, h1, h2, h3, h4, h5⟩ := open_slice_of (R := fun cs l => cs = lbC l) (wt := fun x : Lx => x.sty.length + x.pre.length + 1) (n := 4) Tryz.underlying46 (by kernel_rfl) (by decide) open_label hf
  have e : v' = .slice a len cap := by
    have h1 : [Value.slice a len cap] = [v'] := h1
    injection h1 with h1 _
    exact h1.symm
  subst e
  have hfl : ds = xs.flatMap lbC := Rws.flat h3
  subst hfl
  have h5 : _ + 1 ≤ Rows.uptoBulk d := h5
  have hl := len_lbw xs
  refine ⟨xs, h2, fun hb => ⟨by omega, fun x hx => ?_⟩⟩
  have := lbw_le hx
  omega
theorem bulk3 {d e f : DataW H} (hk : Rows.uptoSmall H [d, e, f] = true) : Rows.uptoBulk d ≤ 1048576 ∧ Rows.uptoBulk e ≤ 1048576 ∧ Rows.uptoBulk f ≤ 1048576 := by
  have h : Rows.uptoBulkAll [d, e, f] ≤ 1048576 := of_decide_eq_true hk
  simp only [Rows.uptoBulkAll] at h
  omega
end
theorem Lb.Sm.mono {B C : Nat} {d : Dc} (h : Lb.Sm B d) (hBC : B ≤ C) : Lb.Sm C d := ⟨Nat.le_trans h.len hBC, fun i hi => Nat.le_trans (h.items i hi) hBC, Nat.le_trans h.trailer hBC⟩
end Go.Proofs.YtiklhhdohckfiaaGreatDoor
