/- Texts that go together: ObP ObQ ObR LxAF LxAG SLaw04B PlW PlX Plain07B ObS. -/
import Derived.Test.YtiklhhdohckfiaaGreatDoorRows
import Derived.Test.YtiklhhdohckfiaaGreatDoorMcpkpoill
import Derived.Test.YtiklhhdohckfiaaGreatDoorMpncofdfc
import Derived.Test.YtiklhhdohckfiaaGreatDoorMghicipol
import Derived.Test.YtiklhhdohckfiaaGreatDoorMielmpmom
/- Contract: foliantlaw07.lives. -/
namespace Go.Proofs.YtiklhhdohckfiaaGreatDoor
set_option linter.unusedVariables false
set_option linter.unusedSimpArgs false
set_option linter.defProp false
open Eng Go.RowKit

def oL : Ob := .mk 6 0 0 [] [] [ob1 5 0 0 [120], ob1 4 0 0 [121], ob1 8 2 0 []]
def oD : Ob := .mk 7 0 0 [] [[65], [66]] [ob1 2 1 0 [], oL]
def oM : List Ob := [ob1 0 0 0 [], ob1 3 (-2500) 0 [], .mk 6 0 0 [] [] [ob1 2 1 0 [], ob1 1 1 0 []]]
theorem smw_1 : Wr.text oD = ([60, 60, 47, 65, 32, 49, 47, 66, 91, 47, 120, 40, 121, 41, 50, 32, 48, 32, 82, 93, 62, 62], 0) := by decide +kernel
theorem smw_2 : Wr.text (ob1 9 0 0 []) = ([], 10) := by decide +kernel
theorem smw_3 : Wr.text (ob1 99 0 0 []) = ([], 10) := by decide +kernel
theorem smw_4 : Wr.many oM = ([110, 117, 108, 108, 10, 45, 48, 46, 50, 53, 10, 91, 49, 32, 116, 114, 117, 101, 93, 10], 0) := by decide +kernel
theorem smw_5 : oD.wt ≤ 100000000 := by decide +kernel
def obs (l : List (Ob × Value)) : List Value := l.flatMap fun x => obC x.1 nilS x.2
def kE (b : Nat) : Ent := .cells b (obs [(ob1 5 0 0 [120], nilS), (ob1 4 0 0 [121], nilS), (ob1 8 2 0 [], nilS)]) 25
def sE (b : Nat) : Ent := .cells b [.string ⟨#[65]⟩, .string ⟨#[66]⟩] 9
def kidsE (b bK : Nat) : Ent := .cells b (obs [(ob1 2 1 0 [], nilS), (oL, .slice (some ⟨bK, 0, none⟩) 3 3)]) 25
abbrev slc (b n : Nat) : Value := .slice (some ⟨b, 0, none⟩) n n
theorem lives0 {w W : World} {L : List Ent} (ht : Tb w) (ho : Own w W L) (bD bA bB bK : Nat) (hD : obE bD oD (slc bA 2) (slc bB 2) ∈ L) (hA : sE bA ∈ L) (hB : kidsE bB bK ∈ L) (hk : kE bK ∈ L) (K : Ending → World → Prop)
    (hK : ∀ W', Below w.heap.size w W' → K (.returned (.bool true)) W') : S_foliantlaw07_lives_0 (.pointer (some ⟨bD, 0, none⟩)) W K := by
  have ovD : ∀ {W : World}, Own w W L → OV (InW W) W (obV oD (slc bA 2) (slc bB 2)) oD := by
    intro W ho
    have ovL : OV (InW W) W (obV oL nilS (slc bK 3)) oL := ObAt.ov (cs := obs [(ob1 5 0 0 [120], nilS), (ob1 4 0 0 [121], nilS), (ob1 8 2 0 [], nilS)])
      ⟨SlA.nil _ _ _ _, sla_cells (ho.mem hk) 6 3 3 rfl, ovs_cons (ov_plain 5 0 0 [120]) (ovs_cons (ov_plain 4 0 0 [121]) (ovs_cons (ov_plain 8 2 0 []) OVs.nil))⟩
    exact ObAt.ov (cs := obs [(ob1 2 1 0 [], nilS), (oL, slc bK 3)]) ⟨sla_cells (ho.mem hA) 1 2 2 rfl, sla_cells (ho.mem hB) 6 2 2 rfl, ovs_cons (ov_plain 2 1 0 []) (ovs_cons ovL OVs.nil)⟩
  have ld : ∀ {W' : World}, Own w W' L → ∀ {PK : List PanicEntry → World → Prop} {K : Value → World → Prop}, DoX Tryz.prog (mLoad 25 (.pointer (some ⟨bD, 0, none⟩))) W' PK K = K (obV oD (slc bA 2) (slc bB 2)) W' :=
    fun h => l_at (AtV.agg aggOb rfl fun j v hj => by simpa using cells_cell (h.mem hD) hj)
  have mb : ∀ (k : Int) {W : World} {PK : List PanicEntry → World → Prop} {K : Value → World → Prop}, DoX Tryz.prog (mBuild 25 #[(0, .int .i64 k)]) W PK K = K (obV (ob1 k 0 0 []) nilS nilS) W := fun k => do_eq (by kernel_rfl)
  unfold S_foliantlaw07_lives_0
  rw [ld ho]
  refine c_told (wtext7_ret oD _ W (ht.own ho) (ovD ho) smw_5) (by rw [smw_1]) ho fun w1 ho => ?_
  simp only [txtV, ex, mb]
  refine c_told (wtext7_ret (ob1 9 0 0 []) _ w1 (ht.own ho) (ov_plain 9 0 0 []) (by decide +kernel)) (by rw [smw_2]) ho fun w2 ho => ?_
  simp only [txtV, ex, mb]
  refine c_told (wtext7_ret (ob1 99 0 0 []) _ w2 (ht.own ho) (ov_plain 99 0 0 []) (by decide +kernel)) (by rw [smw_3]) ho fun w3 ho => ?_
  simp only [txtV, ex]
  refine c_told (rnull_ret w3) rfl ho fun w4 ho => ?_
  refine c_told (rreal05_ret (-2500) w4) rfl ho fun w5 ho => ?_
  refine c_told (rint05_ret 1 w5) rfl ho fun w6 ho => ?_
  refine c_told (rtrue05_ret w6) rfl ho fun w7 ho => ?_
  refine o_new (fun b => slc b 2) (obs [(ob1 2 1 0 [], nilS), (ob1 1 1 0 [], nilS)]) 25 (fun _ => by kernel_rfl) ho fun b8 w8 ho => ?_
  refine c_told (rarr05_ret (some ⟨b8, 0, none⟩) 2 2 [ob1 2 1 0 [], ob1 1 1 0 []] w8) rfl ho fun w9 ho => ?_
  refine o_new (fun b => slc b 3) (obs [(ob1 0 0 0 [], nilS), (ob1 3 (-2500) 0 [], nilS), (.mk 6 0 0 [] [] [ob1 2 1 0 [], ob1 1 1 0 []], slc b8 2)]) 25 (fun _ => by kernel_rfl) ho fun b10 w10 ho => ?_
  have ovA : OV (InW w10) w10 (obV (.mk 6 0 0 [] [] [ob1 2 1 0 [], ob1 1 1 0 []]) nilS (slc b8 2)) (.mk 6 0 0 [] [] [ob1 2 1 0 [], ob1 1 1 0 []]) := ObAt.ov (cs := obs [(ob1 2 1 0 [], nilS), (ob1 1 1 0 [], nilS)])
    ⟨SlA.nil _ _ _ _, sla_cells (ho.at_ 1 rfl) 6 2 2 rfl, ovs_cons (ov_plain 2 1 0 []) (ovs_cons (ov_plain 1 1 0 []) OVs.nil)⟩
  have hat : ObAt (InW w10) w10 (.mk 0 0 0 [] [] oM) nilS (slc b10 3) (obs [(ob1 0 0 0 [], nilS), (ob1 3 (-2500) 0 [], nilS), (.mk 6 0 0 [] [] [ob1 2 1 0 [], ob1 1 1 0 []], slc b8 2)]) :=
    ⟨SlA.nil _ _ _ _, sla_cells (ho.at_ 0 rfl) 6 3 3 rfl, ovs_cons (ov_plain 0 0 0 []) (ovs_cons (ov_plain 3 (-2500) 0 []) (ovs_cons ovA OVs.nil))⟩
  refine c_told (wmany_ret (.mk 0 0 0 [] [] oM) nilS _ _ w10 (ht.own ho) hat (by decide +kernel)) (by rw [show (Ob.mk 0 0 0 [] [] oM).kids = oM from rfl, smw_4]) ho fun w11 ho => ?_
  have ho := ho.tail.tail
  simp only [txtV, ex, rs, eq_self, decide_true, ld ho]
  refine c_told (wsize7_ret oD _ w11 (ht.own ho) (ovD ho) smw_5) (by rw [smw_1]) ho fun w12 ho => ?_
  simp only [rs, eq_self, decide_true, mb, List.length_cons, List.length_nil]
  have e22 : decide (((0 + 1 + 1 + 1 + 1 + 1 + 1 + 1 + 1 + 1 + 1 + 1 + 1 + 1 + 1 + 1 + 1 + 1 + 1 + 1 + 1 + 1 + 1 : Nat) : Int) = 22) = true := by decide
  simp only [e22, rs]
  refine c_told (wsize7_ret (ob1 99 0 0 []) _ w12 (ht.own ho) (ov_plain 99 0 0 []) (by decide +kernel)) (by rw [smw_3]) ho fun w13 ho => ?_
  have e0 : decide (((0 : Nat) : Int) = 0) = true := by decide
  simp only [rs, List.length_nil, e0]
  exact hK _ ho.done
/-- What is made of the sample, in whatever order: before the object's cell, and behind. -/
def St0 (w : World) (bL bK : Nat) (W : World) (a b : Option Nat) : Prop := ∃ L, Own w W (L ++ [obE bL oL nilS (slc bK 3), kE bK]) ∧ (∀ x, a = some x → sE x ∈ L) ∧ (∀ x, b = some x → kidsE x bK ∈ L)
def St1 (w : World) (bL bK : Nat) (W : World) (a b : Option Nat) (d : Nat) : Prop := ∃ L, Own w W (obE d ob0 nilS nilS :: (L ++ [obE bL oL nilS (slc bK 3), kE bK])) ∧ (∀ x, a = some x → sE x ∈ L) ∧ (∀ x, b = some x → kidsE x bK ∈ L)
def St2 (w : World) (bL bK : Nat) (W : World) (a b d : Nat) : Prop := ∃ L, Own w W (obE d oD (slc a 2) (slc b 2) :: (L ++ [obE bL oL nilS (slc bK 3), kE bK])) ∧ sE a ∈ L ∧ kidsE b bK ∈ L
def StS (w : World) (bL bK : Nat) : World → Prop := fun W => ∃ L, Own w W (L ++ [obE bL oL nilS (slc bK 3), kE bK])
section
variable {w W : World} {bL bK d : Nat} {a b : Option Nat} {PK : List PanicEntry → World → Prop} {K : Value → World → Prop}
theorem st0_s (h : St0 w bL bK W a b) : StS w bL bK W := by obtain ⟨L, h, _⟩ := h; exact ⟨L, h⟩
theorem st1_s (h : St1 w bL bK W a b d) : StS w bL bK W := by obtain ⟨L, h, _⟩ := h; exact ⟨_ :: L, h⟩
theorem st2_s {a b : Nat} (h : St2 w bL bK W a b d) : StS w bL bK W := by obtain ⟨L, h, _⟩ := h; exact ⟨_ :: L, h⟩
theorem stA0 (h : St0 w bL bK W none b) (k : ∀ x W', St0 w bL bK W' (some x) b → K (slc x 2) W') : DoX Tryz.prog (mBuildS 22 2 #[(0, (.string ⟨#[65]⟩)), (1, (.string ⟨#[66]⟩))]) W PK K := by
  obtain ⟨L, ho, h1, h2⟩ := h
  refine o_new (fun b => slc b 2) [.string ⟨#[65]⟩, .string ⟨#[66]⟩] 9 (fun _ => by kernel_rfl) ho fun x W' ho => k x W' ⟨sE x :: L, ho, fun y hy => ?_, fun y hy => List.mem_cons_of_mem _ (h2 y hy)⟩
  cases hy; exact List.mem_cons_self ..
theorem stA1 (h : St1 w bL bK W none b d) (k : ∀ x W', St1 w bL bK W' (some x) b d → K (slc x 2) W') : DoX Tryz.prog (mBuildS 22 2 #[(0, (.string ⟨#[65]⟩)), (1, (.string ⟨#[66]⟩))]) W PK K := by
  obtain ⟨L, ho, h1, h2⟩ := h
  refine o_new (fun b => slc b 2) [.string ⟨#[65]⟩, .string ⟨#[66]⟩] 9 (fun _ => by kernel_rfl) ho fun x W' ho => k x W' ⟨sE x :: L, ho.swap, fun y hy => ?_, fun y hy => List.mem_cons_of_mem _ (h2 y hy)⟩
  cases hy; exact List.mem_cons_self ..
theorem stB0 (h : St0 w bL bK W a none) (k : ∀ x W', St0 w bL bK W' a (some x) → K (slc x 2) W') : DoX Tryz.prog (mBuildS 23 2 #[(0, obV (ob1 2 1 0 []) nilS nilS), (1, obV oL nilS (slc bK 3))]) W PK K := by
  obtain ⟨L, ho, h1, h2⟩ := h
  refine o_new (fun b => slc b 2) (obs [(ob1 2 1 0 [], nilS), (oL, slc bK 3)]) 25 (fun _ => by kernel_rfl) ho fun x W' ho => k x W' ⟨kidsE x bK :: L, ho, fun y hy => List.mem_cons_of_mem _ (h1 y hy), fun y hy => ?_⟩
  cases hy; exact List.mem_cons_self ..
theorem stB1 (h : St1 w bL bK W a none d) (k : ∀ x W', St1 w bL bK W' a (some x) d → K (slc x 2) W') : DoX Tryz.prog (mBuildS 23 2 #[(0, obV (ob1 2 1 0 []) nilS nilS), (1, obV oL nilS (slc bK 3))]) W PK K := by
  obtain ⟨L, ho, h1, h2⟩ := h
  refine o_new (fun b => slc b 2) (obs [(ob1 2 1 0 [], nilS), (oL, slc bK 3)]) 25 (fun _ => by kernel_rfl) ho fun x W' ho => k x W' ⟨kidsE x bK :: L, ho.swap, fun y hy => List.mem_cons_of_mem _ (h1 y hy), fun y hy => ?_⟩
  cases hy; exact List.mem_cons_self ..
theorem stC0 (h : St0 w bL bK W a b) (k : ∀ W', St0 w bL bK W' a b → K (obV (ob1 2 1 0 []) nilS nilS) W') : CallX Tryz.prog 41 #[(.int .i64 1)] W PK K := by
  obtain ⟨L, ho, h1, h2⟩ := h
  exact c_told (rint05_ret 1 W) rfl ho fun W' ho => k W' ⟨L, ho, h1, h2⟩
theorem stC1 (h : St1 w bL bK W a b d) (k : ∀ W', St1 w bL bK W' a b d → K (obV (ob1 2 1 0 []) nilS nilS) W') : CallX Tryz.prog 41 #[(.int .i64 1)] W PK K := by
  obtain ⟨L, ho, h1, h2⟩ := h
  exact c_told (rint05_ret 1 W) rfl ho fun W' ho => k W' ⟨L, ho, h1, h2⟩
theorem stD (h : St0 w bL bK W a b) (k : ∀ x W', St1 w bL bK W' a b x → K (.pointer (some ⟨x, 0, none⟩)) W') : DoX Tryz.prog (mAlloc 25) W PK K := by
  obtain ⟨L, ho, h1, h2⟩ := h
  exact o_oba ho fun x W' ho => k x W' ⟨L, ho, h1, h2⟩
theorem stE7 {x y : Nat} (h : St1 w bL bK W (some x) (some y) d) (k : ∀ W', St2 w bL bK W' x y d → K undef W') : DoX Tryz.prog (mStore 25 (.pointer (some ⟨d, 0, none⟩)) (obV oD (slc x 2) (slc y 2))) W PK K := by
  obtain ⟨L, ho, h1, h2⟩ := h
  exact ob_put 0 rfl rfl ho rfl fun W' ho => k W' ⟨L, ho, h1 x rfl, h2 y rfl⟩
theorem stH {x y : Nat} {S : World → Prop} {K : Value → Prop} (k : K (obV oD (slc x 2) (slc y 2))) : HDo Tryz.prog S (mBuild 25 #[(0, (.int .i64 7)), (4, slc x 2), (5, slc y 2)]) K := ⟨_, fun _ _ => by kernel_rfl, k⟩
end
theorem wlives_ret (w : World) (ht : Tb w) : Ret Tryz.prog 12 #[] w (fun v w' => v = .bool true ∧ Below w.heap.size w w') := by
  refine ret_of fun K hK => S_foliantlaw07_lives_ok ?_
  unfold S_foliantlaw07_lives
  refine c_told (rkey05_ret [120] w) rfl (Own.start w) fun w1 ho => ?_
  refine c_told (rtxt05_ret [121] w1) rfl ho fun w2 ho => ?_
  refine c_told (rref05_ret 2 0 w2) rfl ho fun w3 ho => ?_
  refine o_new (fun b => slc b 3) (obs [(ob1 5 0 0 [120], nilS), (ob1 4 0 0 [121], nilS), (ob1 8 2 0 [], nilS)]) 25 (fun _ => by kernel_rfl) ho fun bK w4 ho => ?_
  refine c_told (rarr05_ret (some ⟨bK, 0, none⟩) 3 3 [ob1 5 0 0 [120], ob1 4 0 0 [121], ob1 8 2 0 []] w4) rfl ho fun w5 ho => ?_
  refine o_oba ho fun bL w6 ho => ?_
  refine ob_put (o' := oL) (vk' := nilS) (vc' := slc bK 3) 0 rfl rfl ho rfl fun w7 ho => ?_
  have hst : St0 w bL bK w7.drew none none := ⟨[], ho.drew, (fun _ h => by cases h), (fun _ h => by cases h)⟩
  refine ⟨StS w bL bK, st0_s hst, ?_⟩
  refine ⟨obV oL nilS (slc bK 3), fun W' ⟨L, h⟩ => run_load_at (AtV.agg aggOb rfl fun j v hj => by simpa using cells_cell (h.mem (e := obE bL oL nilS (slc bK 3)) (by simp)) hj), ?_⟩
  have fin : ∀ (W : World) (x y d : Nat), St2 w bL bK W x y d → S_foliantlaw07_lives_0 (.pointer (some ⟨d, 0, none⟩)) W K := by
    rintro W x y d ⟨L, ho, h1, h2⟩
    exact lives0 ht ho d x y bK (by simp) (by simp [h1]) (by simp [h2]) (by simp) K fun W' hb => hK _ _ ⟨rfl, hb⟩
  clear hK ho
  repeat' (first
    | exact st0_s (by assumption) | exact st1_s (by assumption) | exact st2_s (by assumption) | exact fin _ _ _ _ (by assumption)
    | refine And.intro ?_ ?_
    | refine stA0 (by assumption) fun _ _ _ => ?_ | refine stA1 (by assumption) fun _ _ _ => ?_
    | refine stB0 (by assumption) fun _ _ _ => ?_ | refine stB1 (by assumption) fun _ _ _ => ?_
    | refine stC0 (by assumption) fun _ _ => ?_ | refine stC1 (by assumption) fun _ _ => ?_
    | refine stD (by assumption) fun _ _ _ => ?_
    | refine stE7 (by assumption) fun _ _ => ?_
    | refine stH ?_)
end Go.Proofs.YtiklhhdohckfiaaGreatDoor
/- The laws WriteText, WriteMany hold. -/
namespace Go.Proofs.YtiklhhdohckfiaaGreatDoor
set_option linter.unusedVariables false
set_option linter.unusedSimpArgs false
set_option linter.defProp false
open Eng Go.RowKit

theorem writeText_ret (o : Ob) (v : Value) (w : World) (ht : Tb w) (hov : OV (InW w) w v o) (hb : o.wt ≤ 100000000) : Ret Tryz.prog 3 #[v] w (fun v w' => v = .bool true ∧ Below w.heap.size w w') := by
  obtain ⟨vk, vc, cs, rfl, ha⟩ := hov.open
  refine ret_of fun K hK => S_foliantlaw07_WriteText_ok ?_
  unfold S_foliantlaw07_WriteText
  refine o_obb o ha.keys.one ha.kids.one (Own.start w) fun b w1 ho => ?_
  rw [ob_v ho 0 rfl]
  refine c_told (rsize_ret o.wt o _ w1 (Nat.le_refl _) (ha.in_ ho).ov (by omega)) rfl ho fun w2 ho => ?_
  simp only [rs]
  by_cases h3 : (3000 : Int) < (Vl.size o : Nat)
  · simp only [h3, decide_true, i_t]
    refine c_told (wlives_ret w2 (ht.own ho)) rfl ho fun w3 ho => ?_
    exact hK _ _ ⟨rfl, ho.done⟩
  simp only [h3, decide_false, i_f]
  rw [ob_v ho 0 rfl]
  refine c_told (wtext7_ret o _ w2 (ht.own ho) (ha.in_ ho).ov hb) rfl ho fun w3 ho => ?_
  simp only [txtV, ex]
  rw [ob_v ho 0 rfl]
  refine c_told (rtext7_ret o _ w3 (ha.in_ ho).ov hb) rfl ho fun w4 ho => ?_
  simp only [txtV, ex, rs, decide_true, ob_v ho 0 rfl]
  refine c_told (wsize7_ret o _ w4 (ht.own ho) (ha.in_ ho).ov hb) rfl ho fun w5 ho => ?_
  simp only [rs, s_len Tryz.underlying9, decide_true]
  refine c_told (wlives_ret w5 (ht.own ho)) rfl ho fun w6 ho => ?_
  exact hK _ _ ⟨rfl, ho.done⟩
theorem writeMany_ret (o : Ob) (vk vc : Value) (cs : List Value) (w : World) (ht : Tb w) (ha : ObAt (InW w) w o vk vc cs) (hb : Ob.wts o.kids ≤ 100000000) : Ret Tryz.prog 4 #[vc] w (fun v w' => v = .bool true ∧ Below w.heap.size w w') := by
  refine ret_of fun K hK => S_foliantlaw07_WriteMany_ok ?_
  unfold S_foliantlaw07_WriteMany
  have lc : ∀ {W : World} {L : List Ent}, Own w W L → ∀ {PK : List PanicEntry → World → Prop} {K : Value → World → Prop}, DoX Tryz.prog (mB .len #[23] 3 #[false] #[vc]) W PK K = K (.int .i64 (o.kids.length : Int)) W := fun ho => sl_len Tryz.underlying23 (ha.own ho).kids.1
  have hlw := Ob.len_wts o.kids
  refine loop (fun vs w' => ∃ (i n : Nat), vs = [.int .i64 (n : Int), .int .i64 i] ∧ i ≤ o.kids.length ∧ n ≤ i * 100000000 ∧ Own w w' []) (fun vs _ => o.kids.length - n1 vs) ⟨0, 0, rfl, by omega, by omega, Own.start w⟩ ?_
  rintro vs w2 ⟨i, n, rfl, hi, hn, ho⟩ _
  simp only [S_foliantlaw07_WriteMany_0, gd, rs, lc ho]
  by_cases hlt : (i : Int) < (o.kids.length : Int)
  · have hi' : i < o.kids.length := by omega
    simp only [hlt, decide_true, i_t]
    obtain ⟨v, p, hv, hr⟩ := kid_at ha hi'
    obtain ⟨r1, r2⟩ := hr w2 (OwnS.keptIn ho)
    refine do_eq r1 |>.mpr (do_eq r2 |>.mpr ?_)
    have hkw := Ob.get_wts o.kids i hi'
    have hsz := Vl.size_wt o.kids[i]
    refine c_told (rsize_ret o.kids[i].wt o.kids[i] v w2 (Nat.le_refl _) (hv.at_ ho) (by omega)) rfl ho fun w3 ho => ?_
    have h1 : i * 100000000 ≤ 100000000 * 100000000 := Nat.mul_le_mul_right _ (by omega)
    rw [b_add, wrap64_id (by omega) (by omega), wrap64_id (by omega) (by omega)]
    exact nextX ⟨i + 1, n + Vl.size o.kids[i], by simp, by omega, by omega, ho⟩ (by simp [n1, intOf]; omega)
  simp only [hlt, decide_false, i_f]
  by_cases h3 : (3000 : Int) < (n : Int)
  · simp only [h3, decide_true, i_t]
    refine c_told (wlives_ret w2 (ht.own ho)) rfl ho fun w3 ho => ?_
    exact hK _ _ ⟨rfl, ho.done⟩
  simp only [h3, decide_false, i_f]
  have at_ : ∀ {W : World}, Own w W [] → ObAt (InW W) W o vk vc cs := fun h => ha.in_ h
  refine c_told (wmany_ret o vk vc cs w2 (ht.own ho) (at_ ho) hb) rfl ho fun w3 ho => ?_
  simp only [txtV, ex]
  refine c_told (rmany_ret o vk vc cs w3 (at_ ho) hb) rfl ho fun w4 ho => ?_
  simp only [txtV, ex, rs, decide_true]
  refine c_told (wlives_ret w4 (ht.own ho)) rfl ho fun w5 ho => ?_
  exact hK _ _ ⟨rfl, ho.done⟩
end Go.Proofs.YtiklhhdohckfiaaGreatDoor
/- Objects and lists of objects that came in, opened, with the bound of the bulk. -/
namespace Go.Proofs.YtiklhhdohckfiaaGreatDoor
set_option linter.unusedVariables false
set_option linter.unusedSimpArgs false
set_option linter.defProp false
open Eng Go.RowKit Go.ChangeShapes Go.WideShapes Go.ChangeAt

set_option maxRecDepth 100000
section
variable {H : Type} {enc : TypeId × Value → H} {W : World} {sp : Nat → Bool} {held : Bool}
theorem row_obj {b0 : Nat} {v : Value} {d : DataW H} {ps : List MemPlace} (hval : Value.okWide Tryz.prog W .any b0 25 v) (hd : DataW.Trod enc Tryz.prog W 0 sp held 25 v d ps) : ∃ o : Ob, OV (InW W) W v o ∧ o.wt ≤ Rows.uptoBulk d := by
  obtain ⟨cs, rfl, _⟩ := okWide_struct Tryz.underlying25 hval
  obtain ⟨fuel, hf⟩ := hd
  obtain ⟨o, h1, h2, _⟩ := open_obj fuel _ _ hf
  exact ⟨o, by simpa [Value.cells] using h1, h2⟩
theorem ovs_of {A : Nat → Prop} {w : World} : ∀ {cs : List Value} {os : List Ob}, Rws (fun cs o => OV A w (.agg cs.toArray) o ∧ cs.length = 6) cs os → OVs A w cs os
  | _, _, .nil => OVs.nil
  | _, _, .cons (a := a) (rest := rest) h t => by
    rw [OVs]; exact ⟨a, rest, rfl, h.2, h.1, ovs_of t⟩
theorem wts_sum : ∀ os : List Ob, Ob.wts os = (os.map Ob.wt).sum
  | [] => by rw [Ob.wts]; rfl
  | o :: os => by rw [Ob.wts, List.map_cons, List.sum_cons, wts_sum os]
/-- A list of objects, as the parts of an object. -/
theorem row_objs {b0 : Nat} {v : Value} {d : DataW H} {ps : List MemPlace} (hval : Value.okWide Tryz.prog W .any b0 23 v) (hd : DataW.Trod enc Tryz.prog W 0 sp held 23 v d ps) :
    ∃ (l : List Ob) (cs : List Value), ObAt (InW W) W (.mk 0 0 0 [] [] l) nilS v cs ∧ Ob.wts l ≤ Rows.uptoBulk d := by
  obtain ⟨a, len, cap, rfl⟩ := okWide_slice Tryz.underlying23 hval
  obtain ⟨fuel, hf⟩ := hd
  obtain ⟨v', ds, xs, h1, h2, h3, h4, h5⟩ := open_slice_of (R := fun cs o => OV (InW W) W (.agg cs.toArray) o ∧ cs.length = 6) (wt := Ob.wt) (n := 6) Tryz.underlying23 (by kernel_rfl) (by decide)
    (fun fuel cs x h => by obtain ⟨o, h1, h2, h3⟩ := open_obj fuel cs x h; exact ⟨o, ⟨h1, h3⟩, h3, h2⟩) hf
  have e : v' = .slice a len cap := by
    have h1 : [Value.slice a len cap] = [v'] := h1
    injection h1 with h1 _
    exact h1.symm
  subst e
  exact ⟨xs, ds, ⟨SlA.nil _ _ _ _, h2, ovs_of h3⟩, by rw [wts_sum]; have h5 : _ + 1 ≤ Rows.uptoBulk d := h5; omega⟩
/-- The bound, of the one argument. -/
theorem bulk1 {d : DataW H} (hk : Rows.uptoSmall H [d] = true) : Rows.uptoBulk d ≤ 1048576 := by
  have h : Rows.uptoBulkAll [d] ≤ 1048576 := of_decide_eq_true hk
  simp only [Rows.uptoBulkAll] at h
  omega
end
end Go.Proofs.YtiklhhdohckfiaaGreatDoor
/- foliantlaw03.LexNext, LexAll. -/
namespace Go.Proofs.YtiklhhdohckfiaaGreatDoor
set_option linter.unusedVariables false
set_option linter.unusedSimpArgs false
set_option linter.defProp false
open Eng Go.RowKit

end Go.Proofs.YtiklhhdohckfiaaGreatDoor
/- foliantlaw03.LexAll, LexApart. -/
namespace Go.Proofs.YtiklhhdohckfiaaGreatDoor
set_option linter.unusedVariables false
set_option linter.unusedSimpArgs false
set_option linter.defProp false
open Eng Go.RowKit

end Go.Proofs.YtiklhhdohckfiaaGreatDoor
/- Code in continuation form, by program (gen.py): 3 functions. -/
namespace Go.Proofs.YtiklhhdohckfiaaGreatDoor
set_option linter.unusedVariables false
set_option linter.unusedSimpArgs false
set_option linter.defProp false
set_option linter.unusedVariables false
set_option maxRecDepth 20000
open Eng

/- foliantlaw04.one -/
/- foliantlaw04.PlainReads -/
/- foliantlaw04.PlainJoins -/
end Go.Proofs.YtiklhhdohckfiaaGreatDoor
/- foliantlaw04: one, PlainReads. -/
namespace Go.Proofs.YtiklhhdohckfiaaGreatDoor
set_option linter.unusedVariables false
set_option linter.unusedSimpArgs false
set_option linter.defProp false
open Eng Go.RowKit

section
variable {P : Program} {w w0 : World} {L : List Ent} {PK : List PanicEntry → World → Prop} {K : Value → World → Prop}
end
end Go.Proofs.YtiklhhdohckfiaaGreatDoor
/- foliantlaw04.PlainJoins. -/
namespace Go.Proofs.YtiklhhdohckfiaaGreatDoor
set_option linter.unusedVariables false
set_option linter.unusedSimpArgs false
set_option linter.defProp false
open Eng Go.RowKit

end Go.Proofs.YtiklhhdohckfiaaGreatDoor
/- Plain mathematics of layer 7: every part of a valid object is one token. -/
namespace Go.Proofs.YtiklhhdohckfiaaGreatDoor
set_option linter.unusedVariables false
set_option linter.unusedSimpArgs false
set_option linter.defProp false
open Go
namespace Wr
open Lx (Single next)
theorem sg_of {u : List UInt8} {k : Int} {t : Nat} {n : Int} {s : List UInt8} (h : next u 0 = (⟨k, 0, t, n, s⟩, 0)) (ht : t = u.length) (hk : k ≠ 0) : ∃ x, Single u x := ⟨_, h, hk, rfl, by simp [ht]⟩
theorem sg_num {n : Int} (h1 : -2147483647 ≤ n) (h2 : n ≤ 2147483647) : ∃ x, Single (num n) x := by
  have e : num n = Lib.itoa n := by unfold num Pl.pInt; rw [if_pos ⟨h1, h2⟩]
  rw [e]; exact sg_of (Lx.itoa_next h1 h2) rfl (by decide)
theorem sg_name {l : List UInt8} (h : Vl.name l = true) : ∃ x, Single (Pl.pName l).1 x := by
  unfold Vl.name at h
  simp only [Bool.and_eq_true, decide_eq_true_eq] at h
  have e : (Pl.pName l).1 = Pl.name l := by unfold Pl.pName; rw [if_neg (by omega), if_neg (by simpa using h.2)]
  rw [e]; exact sg_of (Lx.name_next h.1 h.2) rfl (by decide)
theorem sg_str {l : List UInt8} (h : l.length ≤ 32767) : ∃ x, Single (Pl.pStr l).1 x := by
  have e : (Pl.pStr l).1 = Pl.str l := by unfold Pl.pStr; rw [if_neg (by omega)]
  rw [e]; exact sg_of (Lx.str_next h) rfl (by decide)
theorem sg_real {n : Int} (h : Fx.okB n = true) : ∃ x, Single (Pl.pReal n).1 x := by
  have e : (Pl.pReal n).1 = Fx.text n := by unfold Pl.pReal; rw [if_pos h]
  rw [e]; exact sg_of (Lx.text_next h) rfl (by decide)
theorem sg_R : ∃ x, Single [82] x := ⟨(next [82] 0).1, by unfold Single; decide +kernel⟩
theorem sg_a : ∃ x, Single [91] x := ⟨(next [91] 0).1, by unfold Single; decide +kernel⟩
theorem sg_b : ∃ x, Single [93] x := ⟨(next [93] 0).1, by unfold Single; decide +kernel⟩
theorem sg_c : ∃ x, Single [60, 60] x := ⟨(next [60, 60] 0).1, by unfold Single; decide +kernel⟩
theorem sg_d : ∃ x, Single [62, 62] x := ⟨(next [62, 62] 0).1, by unfold Single; decide +kernel⟩
theorem sg_nul : ∃ x, Single nul x := ⟨(next nul 0).1, by unfold Single; decide +kernel⟩
theorem sg_tru : ∃ x, Single tru x := ⟨(next tru 0).1, by unfold Single; decide +kernel⟩
theorem sg_fal : ∃ x, Single fal x := ⟨(next fal 0).1, by unfold Single; decide +kernel⟩
theorem form_name {o : Ob} (h : Vl.form o = true) (k5 : o.k = 5) : Vl.name o.s = true := by
  have := h
  simp only [Vl.form, k5, decide_true, Bool.not_true, Bool.false_or, Bool.and_eq_true] at this
  exact this.1
theorem form_keys {o : Ob} (h : Vl.form o = true) (k7 : o.k = 7) : o.keys.length = o.kids.length ∧ ∀ key ∈ o.keys, Vl.name key = true := by
  have hf := h
  simp only [Vl.form, k7, true_or, decide_true, Bool.not_true, Bool.false_or, Bool.and_eq_true] at hf
  have h2 := hf.2
  simp only [Vl.rising, Bool.and_eq_true, decide_eq_true_eq] at h2
  refine ⟨h2.1, fun key hk => ?_⟩
  obtain ⟨i, hi, rfl⟩ := List.getElem_of_mem hk
  have := List.all_eq_true.1 h2.2 i (List.mem_range.2 hi)
  unfold Vl.keyAt at this
  simp only [Bool.and_eq_true] at this
  have e : o.keys.getD i [] = o.keys[i] := by rw [List.getD_eq_getElem?_getD, List.getElem?_eq_getElem hi]; rfl
  rw [e] at this
  exact this.1.1.1
theorem why_parts {d : Nat} {o : Ob} (h : Vl.check d o = 0) : Vl.usesOk o = true ∧ ¬ (o.k = 9 ∧ 1 < d) ∧ Vl.fits o = true ∧ o.s.length ≤ Vl.long o.k ∧ Vl.form o = true := by
  have h := check_why h
  unfold Vl.why at h
  split at h
  · cases h
  split at h
  · cases h
  split at h
  · cases h
  split at h
  · cases h
  split at h
  · cases h
  split at h
  · cases h
  rename_i h1 h2 h3 h4 h5 h6
  rw [not_or] at h2
  exact ⟨by simpa using h2.1, h2.2, by simpa using h3, by omega, by simpa using h6⟩
theorem leaf_single {d : Nat} {o : Ob} (h : Vl.check d o = 0) : ∃ x, Single (leaf o.k o.n o.s) x := by
  obtain ⟨_, _, hf, hl, hm⟩ := why_parts h
  unfold leaf
  split
  · split
    · exact sg_fal
    · exact sg_tru
  split
  · rename_i h1 h2
    have : -2147483647 ≤ o.n ∧ o.n ≤ 2147483647 := by simpa [Vl.fits, h2] using hf
    exact sg_num this.1 this.2
  split
  · rename_i h1 h2 h3
    have : -1073741824 ≤ o.n ∧ o.n ≤ 1073741824 := by simpa [Vl.fits, h3] using hf
    exact sg_real (by simp [Fx.okB]; omega)
  split
  · rename_i h1 h2 h3 h4
    have : Vl.long o.k = 32767 := by rw [h4]; rfl
    exact sg_str (by omega)
  split
  · rename_i h1 h2 h3 h4 h5
    exact sg_name (form_name hm h5)
  · exact sg_nul
 mutual
theorem parts_single : ∀ (o : Ob) (d : Nat), Vl.check d o = 0 → ∀ p ∈ parts o, ∃ x, Single p x
  | .mk k n g s keys kids, d, h => by
    have hk := check_kids h
    obtain ⟨_, _, hf, _, hm⟩ := why_parts h
    have hleaf := leaf_single h
    have h1 := partsL_single kids (d + 1) hk
    intro p hp
    rw [parts] at hp
    split at hp
    · rename_i k8
      have hn : (1 ≤ n ∧ n ≤ 8191) ∧ (0 ≤ g ∧ g ≤ 65535) := by
        have k8 : (Ob.mk k n g s keys kids).k = 8 := k8
        simp [Vl.fits, k8, Ob.n, Ob.g] at hf
        exact ⟨of_decide_eq_true hf.1, of_decide_eq_true hf.2⟩
      simp only [List.mem_cons, List.not_mem_nil, or_false] at hp
      rcases hp with rfl | rfl | rfl
      · exact sg_num (by omega) (by omega)
      · exact sg_num (by omega) (by omega)
      · exact sg_R
    split at hp
    · simp only [List.mem_cons, List.mem_append, List.not_mem_nil, or_false] at hp
      rcases hp with rfl | hp | rfl
      · exact sg_a
      · exact h1 p hp
      · exact sg_b
    split at hp
    · rename_i k8 k6 k7
      obtain ⟨_, hkeys⟩ := form_keys hm k7
      simp only [List.mem_cons, List.mem_append, List.not_mem_nil, or_false] at hp
      rcases hp with rfl | hp | rfl
      · exact sg_c
      · exact partsD_single kids (d + 1) hk keys hkeys p hp
      · exact sg_d
    · simp only [List.mem_singleton] at hp
      subst hp
      exact hleaf
theorem partsL_single : ∀ (os : List Ob) (d : Nat), (∀ x ∈ os, Vl.check d x = 0) → ∀ p ∈ partsL os, ∃ x, Single p x
  | [], _, _ => by simp [partsL]
  | o :: os, d, h => by
    intro p hp
    rw [partsL, List.mem_append] at hp
    rcases hp with hp | hp
    · exact parts_single o d (h o (by simp)) p hp
    · exact partsL_single os d (fun x hx => h x (by simp [hx])) p hp
theorem partsD_single : ∀ (os : List Ob) (d : Nat), (∀ x ∈ os, Vl.check d x = 0) → ∀ (keys : List (List UInt8)), (∀ key ∈ keys, Vl.name key = true) → ∀ p ∈ partsD keys os, ∃ x, Single p x
  | [], _, _, _, _ => by simp [partsD]
  | o :: os, d, h, keys, hkeys => by
    intro p hp
    cases keys with
    | nil => rw [partsD] at hp; cases hp
    | cons key ks =>
      rw [partsD, List.mem_cons, List.mem_append] at hp
      rcases hp with rfl | hp | hp
      · exact sg_name (hkeys key (by simp))
      · exact parts_single o d (h o (by simp)) p hp
      · exact partsD_single os d (fun x hx => h x (by simp [hx])) ks (fun k hk => hkeys k (by simp [hk])) p hp
end
end Wr
end Go.Proofs.YtiklhhdohckfiaaGreatDoor
/- The law WriteTokens holds. -/
namespace Go.Proofs.YtiklhhdohckfiaaGreatDoor
set_option linter.unusedVariables false
set_option linter.unusedSimpArgs false
set_option linter.defProp false
open Eng Go.RowKit

theorem text_ok {o : Ob} (h : (Wr.text o).2 = 0) : Vl.check 1 o = 0 ∧ o.k ≠ 9 ∧ (Wr.text o).1 = Pl.join (Wr.parts o) := by
  unfold Wr.text at h ⊢
  split at h
  · rename_i hc; exact absurd h hc
  split at h
  · cases h
  rename_i hc h9
  rw [if_neg hc, if_neg h9]
  exact ⟨Classical.not_not.1 hc, h9, rfl⟩
theorem text_no {o : Ob} (h : (Wr.text o).2 ≠ 0) : (Wr.text o).1 = [] := by
  unfold Wr.text at h ⊢
  split
  · rfl
  split
  · rfl
  rename_i hc h9
  rw [if_neg hc, if_neg h9] at h
  exact absurd rfl h
theorem parts_pos (o : Ob) : 0 < (Wr.parts o).length := by
  rw [Wr.parts_eq]
  split
  · simp
  split
  · simp
  split
  · simp
  · simp
section
variable {w : World} {PK : List PanicEntry → World → Prop} {K : Value → World → Prop}
theorem fa_tk1 {b off : Nat} : DoX Tryz.prog (mFA 41 (.pointer (some ⟨b, off, none⟩)) 1) w PK K = K (.pointer (some ⟨b, off + 1, none⟩)) w := f_addr (show fOff Tryz.prog 41 1 = some 1 by kernel_rfl)
theorem fa_tk2 {b off : Nat} : DoX Tryz.prog (mFA 41 (.pointer (some ⟨b, off, none⟩)) 2) w PK K = K (.pointer (some ⟨b, off + 2, none⟩)) w := f_addr (show fOff Tryz.prog 41 2 = some 2 by kernel_rfl)
end
set_option maxRecDepth 100000 in
theorem writeTokens_ret (o : Ob) (v : Value) (w : World) (ht : Tb w) (hov : OV (InW w) w v o) (hb : o.wt ≤ 1048576) : Ret Tryz.prog 5 #[v] w (fun v w' => v = .bool true ∧ Below w.heap.size w w') := by
  obtain ⟨vk, vc, cs, rfl, ha⟩ := hov.open
  refine ret_of fun K hK => S_foliantlaw07_WriteTokens_ok ?_
  unfold S_foliantlaw07_WriteTokens
  refine o_obb o ha.keys.one ha.kids.one (Own.start w) fun b w1 ho => ?_
  rw [ob_v ho 0 rfl]
  refine c_told (rsize_ret o.wt o _ w1 (Nat.le_refl _) (ha.in_ ho).ov (by omega)) rfl ho fun w2 ho => ?_
  simp only [rs]
  by_cases h3 : (2000 : Int) < (Vl.size o : Nat)
  · simp only [h3, decide_true, i_t]
    refine c_told (wlives_ret w2 (ht.own ho)) rfl ho fun w3 ho => ?_
    exact hK _ _ ⟨rfl, ho.done⟩
  simp only [h3, decide_false, i_f]
  rw [ob_v ho 0 rfl]
  refine c_told (wtext7_ret o _ w2 (ht.own ho) (ha.in_ ho).ov (by omega)) rfl ho fun w3 ho => ?_
  simp only [txtV, ex, n_err]
  by_cases he : (Wr.text o).2 = 0
  · obtain ⟨hc, _, hj⟩ := text_ok he
    have hlen := Wr.text_len o
    have hpl := Wr.parts_len o
    have hpp := parts_pos o
    obtain ⟨l, hu, hll, hfit⟩ := Lx.joins_upto (Wr.parts o) 1048577 (by omega) (Wr.parts_single o 1 hc)
    have hA : allP (Pl.join (Wr.parts o)) = (l, (0, 0)) := by
      rw [allP, hu]
      simp only
      rw [if_neg (by omega)]
    rw [hj] at hlen
    simp only [he, hj, ne_eq, not_true, decide_false, i_f]
    generalize hs : Pl.join (Wr.parts o) = s at *
    refine c_ret (rall_ret s w3 (by omega)) ?_
    rintro _ w4 ⟨tv, rfl, hn⟩
    rw [hA] at hn ⊢
    have ho := ho.join hn
    simp only [ex]
    refine o_flt ho fun b10 w5 ho => ?_
    refine flt_put (g := (0, 0)) 0 ho rfl fun w6 ho => ?_
    have ho : Own w w6 [fltE b10 (0, 0), TRow tv l, obE b o vk vc] := ho
    rw [fa_f1, l_cell nErr (ho.cell 0 rfl 1 rfl)]
    simp only [rs, ne_eq, not_true, decide_false, sl_len Tryz.underlying34 (trow_sl 1 ho rfl), ob_v ho 2 rfl]
    refine c_ret (rparts_ret o.wt o _ 1 w6 (Nat.le_refl _) (ha.in_ ho).ov (by omega) hc) ?_
    intro pv w7 hn
    have ho := ho.join hn
    have ho : Own w w7 [StrRow pv (Wr.parts o), fltE b10 (0, 0), TRow tv l, obE b o vk vc] := ho
    have h0 : ¬ ((l.length : Int) = 0) := by omega
    simp only [rs, sl_len Tryz.underlying34 (trow_sl 2 ho rfl), sl_len Tryz.underlying22 (ho.slRow 0 rfl), hll, eq_self, ne_eq, not_true, decide_false]
    rw [← hll]
    simp only [rs, h0, decide_false]
    have ho : Own w w7 [TRow tv l] := ho.sub (.cons _ (.cons _ (.cons_cons _ (List.nil_sublist _))))
    refine loop (fun vs w' => ∃ (i : Nat) (a : Int), vs = [.int .i64 a, .int .i64 i] ∧ i ≤ l.length ∧ Lx.Fits s a (l.drop i) ((Wr.parts o).drop i) ∧ Own w w' [TRow tv l]) (fun vs _ => l.length - n1 vs) ⟨0, 0, rfl, by omega, by simpa using hfit, ho⟩ ?_
    clear ho
    rintro vs w7 ⟨i, a, rfl, hi, hf, ho⟩ _
    simp only [S_foliantlaw07_WriteTokens_0, gd, sl_len Tryz.underlying34 (trow_sl 0 ho rfl), rs]
    by_cases hlt : (i : Int) < (l.length : Int)
    · simp only [hlt, decide_true, i_t]
      have hi1 : i < (Wr.parts o).length := by omega
      have hi2 : i < l.length := by omega
      rw [List.drop_eq_getElem_cons hi1, List.drop_eq_getElem_cons hi2] at hf
      obtain ⟨ha0, hgap, hle1, hle2, hcut, hf⟩ := hf
      obtain ⟨ba, oa, ca, rfl, hca⟩ := sl_open (trow_sl 0 ho rfl) (by omega)
      have hx : AtV Tryz.prog w7 41 ⟨ba, oa + i * 5, none⟩ (tokV l[i]) := tok_at hca hi2
      have hix : ∀ {PK K}, DoX Tryz.prog (mIA 34 (.slice (some ⟨ba, oa, none⟩) l.length ca) (.int .i64 (i : Int))) w7 PK K = K (.pointer (some ⟨ba, oa + i * 5, none⟩)) w7 := by
        intro PK K
        refine do_eq ?_
        have := @run_ia Tryz.prog w7 34 41 .i64 ba oa l.length ca 5 (i : Int) Tryz.underlying34 (by kernel_rfl) (by omega) (by omega)
        rw [Int.toNat_natCast] at this
        exact this
      have cl : ∀ j u, (tokC l[i])[j]? = some u → w7.cell? ⟨ba, oa + i * 5 + j, none⟩ = some u := by
        intro j u hj
        have h5 : j < 5 := (List.getElem?_eq_some_iff.1 hj).1
        have := hca (i * 5 + j) u (by rw [flat_get l i j hi2 h5]; exact hj)
        rwa [← Nat.add_assoc] at this
      have c1 : w7.cell? ⟨ba, oa + i * 5 + 1, none⟩ = some (.int .i64 l[i].a) := cl 1 _ rfl
      have c2 : w7.cell? ⟨ba, oa + i * 5 + 2, none⟩ = some (.int .i64 l[i].t) := cl 2 _ rfl
      generalize l[i] = x at *
      have fin : Lx.Fits s x.t (l.drop (i + 1)) ((Wr.parts o).drop (i + 1)) := hf
      have g1 : ¬ x.a < a := by rcases hgap with h | h <;> omega
      have g2 : ¬ a + 1 < x.a := by rcases hgap with h | h <;> omega
      have wa : IntKind.wrap .i64 (a + 1) = a + 1 := by
        refine wrap64_id (by omega) ?_
        rcases hgap with h | h <;> omega
      have stp : ∀ {W : World}, Own w W [TRow (.slice (some ⟨ba, oa, none⟩) l.length ca) l] → W = w7 → NextX (fun vs w' => ∃ (i : Nat) (a : Int), vs = [.int .i64 a, .int .i64 i] ∧ i ≤ l.length ∧ Lx.Fits s a (l.drop i) ((Wr.parts o).drop i) ∧ Own w w' [TRow (.slice (some ⟨ba, oa, none⟩) l.length ca) l]) (fun vs _ => l.length - n1 vs) [.int .i64 a, .int .i64 (i : Int)] w7 [.int .i64 x.t, .int .i64 (IntKind.wrap .i64 ((i : Int) + 1))] w7 := by
        intro W h1 h2
        subst h2
        rw [wrap64_id (by omega) (by omega)]
        exact nextX ⟨i + 1, x.t, rfl, by omega, fin, h1⟩ (by simp [n1, intOf]; omega)
      by_cases hgt : x.a = a + 1
      · have hg : x.a ≤ s.length ∧ Lx.cut s a.toNat x.a.toNat = [32] := by
          rcases hgap with h | h
          · omega
          · exact h.2
        have has : a.toNat < s.length := by omega
        have h32 : s[a.toNat]? = some 32 := by
          have h := hg.2
          rw [Lx.cut_cons has (by omega)] at h
          injection h with h _
          rw [List.getElem?_eq_getElem has, h]
        have g3 : ¬ ((s.length : Int) ≤ a) := by omega
        have six : ∀ {PK K}, DoX Tryz.prog (mIx 9 (.string ⟨s.toArray⟩) (.int .i64 a)) w7 PK K = K (.int .u8 32) w7 := fun {PK K} => s_ix Tryz.underlying9 ha0 h32
        simp only [hix, fa_tk1, fa_tk2, l_cell nInt c1, l_cell nInt c2, rs, g1, g2, g3, hgt, wa, six, decide_false, decide_true, eq_self, s_len Tryz.underlying9, ne_eq, not_true, Int.lt_irrefl]
        have g4 : ¬ (a + 1 < a) := by omega
        simp only [hix, fa_tk1, fa_tk2, l_cell nInt c1, l_cell nInt c2, wa, hgt, g_un, rs, g4, six, decide_false, decide_true, eq_self, s_len Tryz.underlying9, ne_eq, not_true, g3, Int.lt_irrefl]
        exact stp ho rfl
      · simp only [hix, fa_tk1, fa_tk2, l_cell nInt c1, l_cell nInt c2, rs, g1, g2, hgt, wa, decide_false, decide_true, g_un]
        exact stp ho rfl
    · simp only [hlt, decide_false, i_f]
      have h1 : (Wr.parts o).drop i = [] := List.drop_eq_nil_of_le (by omega)
      have h2 : l.drop i = [] := List.drop_eq_nil_of_le (by omega)
      rw [h1, h2] at hf
      have hf : a = s.length := hf
      simp only [s_len Tryz.underlying9, rs, hf, eq_self, decide_true]
      refine c_below ho (wlives_ret w7 (ht.own ho)) ?_
      rintro _ w8 rfl ho
      exact hK _ _ ⟨rfl, ho.done⟩
  · have hno := text_no he
    simp only [he, hno, ne_eq, not_false_iff, decide_true, i_t, e_str]
    simp only [rs]
    refine c_told (wlives_ret w3 (ht.own ho)) rfl ho fun w4 ho => ?_
    exact hK _ _ ⟨rfl, ho.done⟩
end Go.Proofs.YtiklhhdohckfiaaGreatDoor
