/- Contracts: the reference's arithmetic. -/
import Derived.Test.YtfnpfbgnhncgpaaDoorFixW
namespace Go.Proofs.YtfnpfbgnhncgpaaDoor
set_option linter.unusedVariables false
set_option linter.unusedSimpArgs false
set_option linter.defProp false
open Eng Go.RowKit
set_option linter.unusedVariables false
set_option linter.unusedSimpArgs false

def Fx.rootP (n : Int) (x : Int × Int) : Prop := if Fx.okB n then (if n < 0 then x = (0, 1) else ∃ r, Fx.isqrt (10000 * n) r ∧ x = (r, 0)) else x = (0, 2)
theorem rootP_unique {n : Int} {x y : Int × Int} (hx : Fx.rootP n x) (hy : Fx.rootP n y) : x = y := by
  unfold Fx.rootP at hx hy
  split at hx
  · rename_i h
    rw [if_pos h] at hy
    split at hx
    · rename_i h2
      rw [if_pos h2] at hy; rw [hx, hy]
    · rename_i h2
      rw [if_neg h2] at hy
      obtain ⟨r, hr, rfl⟩ := hx
      obtain ⟨q, hq, rfl⟩ := hy
      rw [Fx.isqrt_unique hr hq]
  · rename_i h
    rw [if_neg h] at hy; rw [hx, hy]
theorem proot_ret (n : Int) (w : World) : Ret Tryd.prog 22 #[.int .i64 n] w (fun v w' => (∃ x, v = pair x ∧ Fx.rootP n x) ∧ Below w.heap.size w w') := by
  refine ret_of fun K hK => root_any n w K (fun h w' hb => ?_) (fun h hn w' hb => ?_) (fun h hn r w' hr hb => ?_)
  · exact hK _ _ ⟨⟨_, rfl, by rw [Fx.rootP, if_neg (by simp [h])]⟩, hb⟩
  · exact hK _ _ ⟨⟨_, rfl, by rw [Fx.rootP, if_pos h, if_pos hn]⟩, hb⟩
  · exact hK _ _ ⟨⟨_, rfl, by rw [Fx.rootP, if_pos h, if_neg (by omega)]; exact ⟨r, hr, rfl⟩⟩, hb⟩

theorem rnear_ret (n d : Int) (w : World) (h2 : -9223372036854775808 ≤ d ∧ d ≤ 9223372036854775807) (h3 : -9223372036854775808 ≤ n) (h4 : n ≤ 9223372036854775807) :
    Ret Tryd.prog 21 #[.int .i64 n, .int .i64 d] w (fun v w' => v = pair (Fx.nearE n d) ∧ Below w.heap.size w w') := by
  refine ret_of fun K hK => S_foliantref02_Near_ok ?_
  unfold S_foliantref02_Near Fx.nearE at *
  by_cases h : d < 1
  · simp only [rs, h, decide_true] at *
    exact hK _ _ ⟨by simp, Below.refl _ _⟩
  · by_cases ha : n < -4611686018427387904
    · simp only [rs, h, ha, decide_true, decide_false, g_un]
      exact hK _ _ ⟨by simp [h, ha], Below.refl _ _⟩
    · by_cases hb : 4611686018427387904 < n
      · simp only [rs, h, ha, hb, decide_true, decide_false]
        exact hK _ _ ⟨by simp [h, ha, hb], Below.refl _ _⟩
      · simp only [rs, h, ha, hb, decide_true, decide_false]
        refine c_ret (rnearest_ret n d w (by omega) h2.2 h3 h4) ?_
        rintro v w' ⟨rfl, rfl⟩
        exact hK _ _ ⟨by simp [h, ha, hb], Below.refl _ _⟩
theorem rwhole_ret (n : Int) (w : World) (h3 : -9223372036854775808 ≤ n) (h4 : n ≤ 9223372036854775807) :
    Ret Tryd.prog 27 #[.int .i64 n] w (fun v w' => v = .int .i64 (Fx.near n 10000) ∧ Below w.heap.size w w') := by
  refine ret_of fun K hK => S_foliantref02_Whole_ok ?_
  unfold S_foliantref02_Whole
  refine c_ret (rnearest_ret n 10000 w (by omega) (by omega) h3 h4) ?_
  rintro v w' ⟨rfl, rfl⟩
  exact hK _ _ ⟨rfl, Below.refl _ _⟩
theorem told_ret (n : Int) (w : World) : Ret Tryd.prog 79 #[.int .i64 n] w (fun v w' => v = pair (Fx.ans n) ∧ w = w') := by
  refine ret_of fun K hK => S_foliantref02_told_ok ?_
  unfold S_foliantref02_told
  refine c_ret (rwithin_ret n w) ?_
  rintro v w1 ⟨rfl, rfl⟩
  cases h : Fx.okB n with
  | true => simp only [rs]; exact hK _ _ ⟨by rw [Fx.ans, h]; rfl, rfl⟩
  | false => simp only [rs]; exact hK _ _ ⟨by rw [Fx.ans, h]; rfl, rfl⟩
theorem rmul_ret (a b : Int) (w : World) : Ret Tryd.prog 29 #[.int .i64 a, .int .i64 b] w (fun v w' => v = pair (Fx.mul a b) ∧ Below w.heap.size w w') := by
  refine ret_of fun K hK => S_foliantref02_Mul_ok ?_
  unfold S_foliantref02_Mul
  refine c_ret (rwithin_ret a w) ?_
  rintro v w1 ⟨rfl, rfl⟩
  cases ha : Fx.okB a with
  | false => simp only [rs, g_un]; exact hK _ _ ⟨by simp [Fx.mul, ha], Below.refl _ _⟩
  | true =>
    simp only [rs]
    refine c_ret (rwithin_ret b w) ?_
    rintro v w1 ⟨rfl, rfl⟩
    cases hb : Fx.okB b with
    | false => simp only [rs]; exact hK _ _ ⟨by simp [Fx.mul, hb], Below.refl _ _⟩
    | true =>
      have hm := mul_ok ha hb
      simp only [rs]
      rw [wrap64_id (by omega) (by omega)]
      refine c_ret (rnearest_ret _ 10000 w (by omega) (by omega) (by omega) (by omega)) ?_
      rintro v w2 ⟨rfl, rfl⟩
      refine c_ret (told_ret _ w) ?_
      rintro v w3 ⟨rfl, rfl⟩
      simp only [pair, ex]
      exact hK _ _ ⟨by simp [Fx.mul, ha, hb], Below.refl _ _⟩
theorem rdiv_ret (a b : Int) (w : World) : Ret Tryd.prog 31 #[.int .i64 a, .int .i64 b] w (fun v w' => v = pair (Fx.div a b) ∧ Below w.heap.size w w') := by
  refine ret_of fun K hK => S_foliantref02_Div_ok ?_
  unfold S_foliantref02_Div
  refine c_ret (rwithin_ret a w) ?_
  rintro v w1 ⟨rfl, rfl⟩
  cases ha : Fx.okB a with
  | false => simp only [rs, g_un]; exact hK _ _ ⟨by simp [Fx.div, ha], Below.refl _ _⟩
  | true =>
    simp only [rs]
    refine c_ret (rwithin_ret b w) ?_
    rintro v w1 ⟨rfl, rfl⟩
    cases hb : Fx.okB b with
    | false => simp only [rs]; exact hK _ _ ⟨by simp [Fx.div, hb], Below.refl _ _⟩
    | true =>
      have ba := okB_bd ha
      have bb := okB_bd hb
      simp only [rs]
      have step : ∀ x y : Int, -1073741824 ≤ x → x ≤ 1073741824 → 1 ≤ y → y ≤ 1073741824 → Fx.div a b = Fx.ans (Fx.near (10000 * x) y) → S_foliantref02_Div_0 (.int .i64 x) (.int .i64 y) w K := by
        intro x y hx1 hx2 hy1 hy2 he
        unfold S_foliantref02_Div_0
        simp only [rs]
        rw [wrap64_id (by omega) (by omega)]
        refine c_ret (rnearest_ret _ y _ (by omega) (by omega) (by omega) (by omega)) ?_
        rintro v w4 ⟨rfl, rfl⟩
        refine c_ret (told_ret _ w) ?_
        rintro v w3 ⟨rfl, rfl⟩
        simp only [pair, ex]
        exact hK _ _ ⟨by rw [he, Int.mul_comm 10000 x], Below.refl _ _⟩
      by_cases hz : b = 0
      · simp only [rs, hz, decide_true]
        subst hz
        exact hK _ _ ⟨by simp [Fx.div, ha, hb], Below.refl _ _⟩
      · simp only [rs, hz, decide_false]
        refine join fun J hJ => ?_
        by_cases hn : b < 0
        · simp only [rs, hn, decide_true]
          rw [wrap64_id (n := -a) (by omega) (by omega), wrap64_id (n := -b) (by omega) (by omega)]
          refine hJ _ _ fun _ => ?_
          exact step (-a) (-b) (by omega) (by omega) (by omega) (by omega) (by simp [Fx.div, ha, hb, hz, hn])
        · simp only [rs, hn, decide_false]
          refine hJ _ _ fun _ => ?_
          exact step a b (by omega) (by omega) (by omega) (by omega) (by simp [Fx.div, ha, hb, hz, hn])
theorem all_not {zs : List Int} {k : Nat} (hlt : k < zs.length) (h : Fx.okB zs[k] = false) : zs.all Fx.okB = false := by
  cases hh : zs.all Fx.okB with
  | false => rfl
  | true => have := List.all_eq_true.1 hh zs[k] (List.getElem_mem hlt); rw [h] at this; cases this
theorem rsum_ret (v : Value) (zs : List Int) (w : World) (hs : Sl w v 1 zs.length (ints zs)) (hn : zs.length ≤ 300) : Ret Tryd.prog 35 #[v] w (fun v w' => v = pair (Fx.sum zs) ∧ Below w.heap.size w w') := by
  refine ret_of fun K hK => S_foliantref02_Sum_ok ?_
  unfold S_foliantref02_Sum
  refine loop (fun vs w' => ∃ k : Nat, k ≤ zs.length ∧ vs = [.int .i64 (zs.take k).sum, .int .i64 k] ∧ (zs.take k).all Fx.okB = true ∧ w = w') (fun vs _ => zs.length - n1 vs) ⟨0, by omega, rfl, rfl, rfl⟩ ?_
  rintro vs w' ⟨k, hk, rfl, hall, rfl⟩ _
  have hbd := sum_bd _ hall
  have hlk : (zs.take k).length = k := by simp; omega
  rw [hlk] at hbd
  simp only [S_foliantref02_Sum_0, gd, sl_len Tryd.underlying31 hs, rs]
  by_cases hlt : k < zs.length
  · have hlt' : (k : Int) < (zs.length : Int) := by omega
    simp only [rs, hlt', decide_true]
    have hg : (ints zs)[(k : Int).toNat]? = some (.int .i64 zs[k]) := by rw [Int.toNat_natCast]; exact ints_get hlt
    refine sl_ia1 (.int .i64 zs[k]) Tryd.underlying31 (by kernel_rfl) hs (by omega) hg fun p hpc => ?_
    rw [l_cell (show notAgg Tryd.prog 2 = true by kernel_rfl) hpc]
    refine c_ret (rwithin_ret _ w) ?_
    rintro v w1 ⟨rfl, rfl⟩
    cases ho : Fx.okB zs[k] with
    | false =>
      simp only [rs]
      exact hK _ _ ⟨by rw [Fx.sum, all_not hlt ho]; rfl, Below.refl _ _⟩
    | true =>
      have hb := okB_bd ho
      simp only [rs]
      refine sl_ia1 (.int .i64 zs[k]) Tryd.underlying31 (by kernel_rfl) hs (by omega) hg fun p hpc => ?_
      simp only [l_cell (show notAgg Tryd.prog 2 = true by kernel_rfl) hpc, rs]
      rw [wrap64_id (by omega) (by omega), wrap64_id (by omega) (by omega)]
      refine nextX ⟨k + 1, hlt, ?_, ?_, rfl⟩ (by simp [n1, intOf]; omega)
      · rw [sum_take zs k hlt]; rfl
      · rw [take_all zs k hlt, hall, ho]; rfl
  · have hlt' : ¬ (k : Int) < (zs.length : Int) := by omega
    simp only [rs, hlt', decide_false]
    rw [List.take_of_length_le (by omega)] at hall hbd ⊢
    refine c_ret (told_ret _ w) ?_
    rintro v w3 ⟨rfl, rfl⟩
    simp only [pair, ex]
    exact hK _ _ ⟨by rw [Fx.sum, if_pos hall], Below.refl _ _⟩
theorem rdot_ret (v : Value) (zs : List Int) (w : World) (hs : Sl w v 1 zs.length (ints zs)) (hn : zs.length ≤ 300) : Ret Tryd.prog 33 #[v] w (fun v w' => v = pair (Fx.dot zs) ∧ Below w.heap.size w w') := by
  refine ret_of fun K hK => S_foliantref02_Dot_ok ?_
  unfold S_foliantref02_Dot
  simp only [sl_len Tryd.underlying31 hs, rs, b_rem (show (2 : Int) ≠ 0 by omega)]
  by_cases hodd : zs.length % 2 = 1
  · have e1 : ((zs.length : Int).tmod 2 = 1) := by rw [Int.tmod_eq_emod_of_nonneg (by omega)]; omega
    simp only [e1, decide_true, rs, g_un]
    exact hK _ _ ⟨by rw [Fx.dot, if_pos (.inl hodd)], Below.refl _ _⟩
  · have e1 : ¬ ((zs.length : Int).tmod 2 = 1) := by rw [Int.tmod_eq_emod_of_nonneg (by omega)]; omega
    by_cases h8 : 8 < zs.length
    · have e2 : (8 : Int) < (zs.length : Int) := by omega
      simp only [e1, e2, decide_true, decide_false, rs, sl_len Tryd.underlying31 hs]
      exact hK _ _ ⟨by rw [Fx.dot, if_pos (.inr h8)], Below.refl _ _⟩
    · have e2 : ¬ (8 : Int) < (zs.length : Int) := by omega
      simp only [e1, e2, decide_false, rs, sl_len Tryd.underlying31 hs]
      have hspec : zs.all Fx.okB = false → Fx.dot zs = (0, 2) := fun h => by rw [Fx.dot, if_neg (by omega), h]; rfl
      refine loop (fun vs w' => ∃ k : Nat, k ≤ zs.length ∧ k % 2 = 0 ∧ vs = [.int .i64 (Fx.dotS (zs.take k)), .int .i64 k] ∧ (zs.take k).all Fx.okB = true ∧ Below w.heap.size w w') (fun vs _ => zs.length - n1 vs) ⟨0, by omega, rfl, rfl, rfl, Below.refl _ _⟩ ?_
      rintro vs w' ⟨k, hkl, hev, rfl, hallk, hbel⟩ _
      have hs' := hs.below hbel
      have hbdk := Fx.dotS_bd _ hallk
      have hlk : (zs.take k).length = k := by simp; omega
      rw [hlk] at hbdk
      simp only [S_foliantref02_Dot_0, gd, rs, sl_len Tryd.underlying31 hs']
      rw [wrap64_id (by omega) (by omega)]
      by_cases hlt : k < zs.length
      · have hlt2 : k + 1 < zs.length := by omega
        have hlt' : (k : Int) + 1 < (zs.length : Int) := by omega
        simp only [rs, hlt', decide_true]
        have hg0 : (ints zs)[(k : Int).toNat]? = some (.int .i64 zs[k]) := by rw [Int.toNat_natCast]; exact ints_get hlt
        have hg1 : (ints zs)[((k : Int) + 1).toNat]? = some (.int .i64 zs[k + 1]) := by rw [show ((k : Int) + 1).toNat = k + 1 by omega]; exact ints_get hlt2
        refine sl_ia1 (.int .i64 zs[k]) Tryd.underlying31 (by kernel_rfl) hs' (by omega) hg0 fun p hpc => ?_
        rw [l_cell (show notAgg Tryd.prog 2 = true by kernel_rfl) hpc]
        refine c_ret (rwithin_ret _ w') ?_
        rintro v w1 ⟨rfl, rfl⟩
        cases ho : Fx.okB zs[k] with
        | false =>
          simp only [rs, g_un]
          exact hK _ _ ⟨by rw [hspec (all_not hlt ho)], hbel⟩
        | true =>
          simp only [rs]
          rw [wrap64_id (by omega) (by omega)]
          refine sl_ia1 (.int .i64 zs[k + 1]) Tryd.underlying31 (by kernel_rfl) hs' (by omega) hg1 fun p hpc => ?_
          rw [l_cell (show notAgg Tryd.prog 2 = true by kernel_rfl) hpc]
          refine c_ret (rwithin_ret _ w') ?_
          rintro v w1 ⟨rfl, rfl⟩
          cases ho1 : Fx.okB zs[k + 1] with
          | false =>
            simp only [rs]
            exact hK _ _ ⟨by rw [hspec (all_not hlt2 ho1)], hbel⟩
          | true =>
            simp only [rs]
            have hmul := Fx.okB_mul ho ho1
            obtain ⟨b, off, cap, rfl, hcell⟩ := sl_open hs' (by omega)
            have c0 : w'.cell? ⟨b, off + (k : Int).toNat * 1, none⟩ = some (.int .i64 zs[k]) := hcell _ _ (by rw [Nat.mul_one]; exact hg0)
            have c1 : w'.cell? ⟨b, off + ((k : Int) + 1).toNat * 1, none⟩ = some (.int .i64 zs[k + 1]) := hcell _ _ (by rw [Nat.mul_one]; exact hg1)
            have ek : (IntKind.i64.wrap ((k : Int) + 1)) = (k : Int) + 1 := wrap64_id (by omega) (by omega)
            refine quiet ?_
            refine q_do _ (fun _ => run_ia Tryd.underlying31 (show _ = some 1 by kernel_rfl) (by omega) (by omega)) ?_
            refine q_at _ (fun wc hw => run_load_cell (by kernel_rfl) ((hw.cell (World.block_lt_of_cell? w' _ c0)).trans c0)) ?_
            refine q_do _ (fun _ => r_add) ?_
            rw [ek]
            refine q_do _ (fun _ => run_ia Tryd.underlying31 (show _ = some 1 by kernel_rfl) (by omega) (by omega)) ?_
            refine q_at _ (fun wc hw => run_load_cell (by kernel_rfl) ((hw.cell (World.block_lt_of_cell? w' _ c1)).trans c1)) ?_
            refine q_do _ (fun _ => r_mul) ?_
            rw [wrap64_id (by omega) (by omega)]
            refine q_do _ (fun _ => r_add) ?_
            rw [wrap64_id (by omega) (by omega)]
            intro wc hw
            rw [wrap64_id (by omega) (by omega)]
            refine nextX ⟨k + 2, by omega, by omega, ?_, ?_, hbel.trans (hw.mono hbel.size)⟩ (by simp [n1, intOf]; omega)
            · rw [Fx.dotS_take zs k hlt2 hev]; simp
            · rw [take_all zs (k + 1) hlt2, take_all zs k hlt, hallk, ho, ho1]; rfl
      · have hlt' : ¬ (k : Int) + 1 < (zs.length : Int) := by omega
        simp only [rs, hlt', decide_false]
        refine c_ret (rnearest_ret _ 10000 _ (by omega) (by omega) (by omega) (by omega)) ?_
        rintro v w4 ⟨rfl, rfl⟩
        rw [List.take_of_length_le (by omega)] at hallk ⊢
        refine c_ret (told_ret _ w') ?_
        rintro v w3 ⟨rfl, rfl⟩
        simp only [pair, ex]
        exact hK _ _ ⟨by rw [Fx.dot, if_neg (by omega), if_pos hallk], hbel⟩
theorem rroot_ret (n : Int) (w : World) : Ret Tryd.prog 23 #[.int .i64 n] w (fun v w' => (∃ x, v = pair x ∧ Fx.rootP n x) ∧ Below w.heap.size w w') := by
  refine ret_of fun K hK => S_foliantref02_Root_ok ?_
  unfold S_foliantref02_Root
  refine c_ret (rwithin_ret n w) ?_
  rintro v w1 ⟨rfl, rfl⟩
  cases ho : Fx.okB n with
  | false =>
    simp only [rs]
    exact hK _ _ ⟨⟨(0, 2), rfl, by rw [Fx.rootP, ho]; rfl⟩, Below.refl _ _⟩
  | true =>
    have hb := okB_bd ho
    simp only [rs]
    by_cases hn : n < 0
    · simp only [hn, decide_true, rs]
      exact hK _ _ ⟨⟨(0, 1), rfl, by rw [Fx.rootP, if_pos ho, if_pos hn]⟩, Below.refl _ _⟩
    · simp only [hn, decide_false, rs]
      have hfin : ∀ r, Fx.isqrt (10000 * n) r → K (.returned (pair (r, 0))) w := fun r hr => hK _ _ ⟨⟨(r, 0), rfl, by rw [Fx.rootP, if_pos ho, if_neg hn]; exact ⟨r, hr, rfl⟩⟩, Below.refl _ _⟩
      have hcomm : n * 10000 = 10000 * n := Int.mul_comm _ _
      generalize hsq : 10000 * n = sq at *
      refine loop (fun vs w' => ∃ (m : Nat) (r : Int), m ≤ 31 ∧ vs = [.int .i64 r, .int .i64 ((2 ^ m : Int) / 2)] ∧ 0 ≤ r ∧ r + 2 ^ m ≤ 2147483648 ∧ r * r ≤ sq ∧ sq < (r + 2 ^ m) * (r + 2 ^ m) ∧ w = w')
        (fun vs _ => n1 vs) ⟨31, 0, by omega, rfl, by omega, by omega, by omega, by omega, rfl⟩ ?_
      rintro vs w' ⟨m, r, hm, rfl, hr, hr2, hr3, hr4, rfl⟩ _
      simp only [S_foliantref02_Root_0, gd, rs]
      cases m with
      | zero =>
        simp only [Int.pow_zero, show (1 : Int) / 2 = 0 from rfl, show ¬ ((0 : Int) < 0) by omega, decide_false, rs]
        exact hfin r ⟨hr, hr3, hr4⟩
      | succ m =>
        have e : (2 ^ (m + 1) : Int) = 2 * 2 ^ m := by rw [Int.pow_succ]; omega
        have hp : (1 : Int) ≤ 2 ^ m := Int.pow_pos (by omega)
        rw [e] at hr2 hr4 ⊢
        rw [show (2 * 2 ^ m : Int) / 2 = 2 ^ m by omega]
        generalize hd : (2 ^ m : Int) = d at *
        simp only [show (0 : Int) < d by omega, decide_true, rs]
        have hsq2 : 0 ≤ (r + d) * (r + d) := Int.mul_nonneg (by omega) (by omega)
        have hsq3 : (r + d) * (r + d) ≤ 2147483648 * 2147483648 := Int.mul_le_mul (by omega) (by omega) (by omega) (by omega)
        refine join fun J hJ => ?_
        rw [wrap64_id (n := r + d) (by omega) (by omega), wrap64_id (n := (r + d) * (r + d)) (by omega) (by omega), hcomm, wrap64_id (n := sq) (by omega) (by omega)]
        have hnext : ∀ (r' : Int), 0 ≤ r' → r' + d ≤ 2147483648 → r' * r' ≤ sq → sq < (r' + d) * (r' + d) → J [.int .i64 r'] w := by
          intro r' a1 a2 a3 a4
          refine hJ _ _ fun _ => ?_
          simp only [S_foliantref02_Root_1, gd, b_quo (show (2 : Int) ≠ 0 by omega)]
          have eq : IntKind.i64.wrap (d.tdiv 2) = d / 2 := by rw [Int.tdiv_eq_ediv_of_nonneg (by omega)]; exact wrap64_id (by omega) (by omega)
          rw [eq]
          refine nextX ⟨m, r', by omega, by rw [hd], a1, by rw [hd]; exact a2, a3, by rw [hd]; exact a4, rfl⟩ (by simp [n1, intOf]; omega)
        by_cases hle : (r + d) * (r + d) ≤ sq
        · simp only [hle, decide_true, rs]
          exact hnext (r + d) (by omega) (by omega) hle (by rw [show r + d + d = r + 2 * d by omega]; exact hr4)
        · simp only [hle, decide_false, rs]
          exact hnext r hr (by omega) hr3 (by omega)
end Go.Proofs.YtfnpfbgnhncgpaaDoor
