/- Contracts of the program's package fix. -/
import Derived.Test.YtfnpfbgnhncgpaaDoorPlain02
import Derived.Test.YtfnpfbgnhncgpaaDoorSFix
import Derived.Test.YtfnpfbgnhncgpaaDoorSRef02
import Derived.Test.YtfnpfbgnhncgpaaDoorEngO
import Derived.Recover
namespace Go.Proofs.YtfnpfbgnhncgpaaDoor
set_option linter.unusedVariables false
set_option linter.unusedSimpArgs false
set_option linter.defProp false
open Eng Go.RowKit
set_option linter.unusedVariables false
set_option linter.unusedSimpArgs false

theorem within_ret (n : Int) (w : World) : Ret Tryd.prog 75 #[.int .i64 n] w (fun v w' => v = .bool (Fx.okB n) ∧ w = w') := by
  refine ret_of fun K hK => S_fix_within_ok ?_
  unfold S_fix_within
  by_cases h : -1073741824 ≤ n <;> simp only [rs, h, decide_true, decide_false] <;> exact hK _ _ ⟨by simp [Fx.okB, h], rfl⟩
theorem nearest_ret (n d : Int) (w : World) (h1 : 1 ≤ d) (h2 : d ≤ 9223372036854775807) (h3 : -9223372036854775808 ≤ n) (h4 : n ≤ 9223372036854775807) :
    Ret Tryd.prog 73 #[.int .i64 n, .int .i64 d] w (fun v w' => v = .int .i64 (Fx.near n d) ∧ Below w.heap.size w w') := by
  refine ret_of fun K hK => S_fix_nearest_ok ?_
  unfold S_fix_nearest
  have hd : d ≠ 0 := by omega
  refine quiet (q_do _ (fun _ => r_quo hd) (q_do _ (fun _ => r_rem hd) ?_))
  intro w1 hw1
  refine join fun J hJ => ?_
  have b1 := Int.lt_tmod_of_pos n (show 0 < d by omega)
  have b2 := Int.tmod_lt_of_pos n (show 0 < d by omega)
  have b3 := Int.natAbs_tdiv_le_natAbs n d
  have b4 := Int.mul_tdiv_add_tmod n d
  have c1 := Fx.near_tdiv_neg n d (by omega)
  have c2 := Fx.near_tdiv_pos n d (by omega)
  have b5 : n.tmod d < 0 → -9223372036854775808 < n.tdiv d := fun hr => by
    apply Classical.byContradiction; intro hc
    have h5 : d * n.tdiv d ≤ 1 * n.tdiv d := Int.mul_le_mul_of_nonpos_right h1 (by omega)
    omega
  have b7 : n.tdiv d ≤ 9223372036854775807 := by
    apply Classical.byContradiction; intro hc
    have h5 : 1 * (n.tdiv d - 1) ≤ d * (n.tdiv d - 1) := Int.mul_le_mul_of_nonneg_right h1 (by omega)
    have h6 : d * (n.tdiv d - 1) = d * n.tdiv d - d := by rw [Int.mul_sub, Int.mul_one]
    omega
  generalize n.tdiv d = q at *
  generalize n.tmod d = r at *
  simp only [rs, wrap64_id (n := q) (by omega) (by omega)]
  by_cases hr : r < 0
  · have b5 := b5 hr
    simp only [rs, hr, decide_true, wrap64_id (n := q - 1) (by omega) (by omega), wrap64_id (n := r + d) (by omega) (by omega)]
    refine hJ _ _ fun _ => ?_
    simp only [gd, S_fix_nearest_0]
    refine join fun J hJ => ?_
    simp only [rs, wrap64_id (n := d - (r + d)) (by omega) (by omega), wrap64_id (n := q - 1 + 1) (by omega) (by omega)]
    by_cases h : d - (r + d) ≤ r + d <;> simp only [rs, h, decide_true, decide_false] <;> refine hJ _ _ fun _ => hK _ _ ⟨?_, hw1⟩ <;> rw [c1 hr] <;> simp [h]
  · simp only [rs, hr, decide_false]
    refine hJ _ _ fun _ => ?_
    simp only [gd, S_fix_nearest_0]
    refine join fun J hJ => ?_
    have b6 : q + 1 ≤ 9223372036854775807 ∨ ¬ (d - r ≤ r) := by
      by_cases hq : q = 9223372036854775807
      · right
        intro hc
        have h5 : 2 * q ≤ d * q := Int.mul_le_mul_of_nonneg_right (by omega) (by omega)
        omega
      · left; omega
    simp only [rs, wrap64_id (n := d - r) (by omega) (by omega)]
    by_cases h : d - r ≤ r
    · simp only [rs, h, decide_true, wrap64_id (n := q + 1) (by omega) (by omega)]
      refine hJ _ _ fun _ => hK _ _ ⟨?_, hw1⟩
      rw [c2 (by omega)]; simp [h]
    · simp only [rs, h, decide_false]
      refine hJ _ _ fun _ => hK _ _ ⟨?_, hw1⟩
      rw [c2 (by omega)]; simp [h]
theorem rnearest_ret (n d : Int) (w : World) (h1 : 1 ≤ d) (h2 : d ≤ 9223372036854775807) (h3 : -9223372036854775808 ≤ n) (h4 : n ≤ 9223372036854775807) :
    Ret Tryd.prog 74 #[.int .i64 n, .int .i64 d] w (fun v w' => v = .int .i64 (Fx.near n d) ∧ w = w') := by
  refine ret_of fun K hK => S_foliantref02_nearest_ok ?_
  unfold S_foliantref02_nearest
  have hd : d ≠ 0 := by omega
  simp only [b_quo hd, b_rem hd]
  refine join fun J hJ => ?_
  have b1 := Int.lt_tmod_of_pos n (show 0 < d by omega)
  have b2 := Int.tmod_lt_of_pos n (show 0 < d by omega)
  have b3 := Int.natAbs_tdiv_le_natAbs n d
  have b4 := Int.mul_tdiv_add_tmod n d
  have c1 := Fx.near_tdiv_neg n d (by omega)
  have c2 := Fx.near_tdiv_pos n d (by omega)
  have b5 : n.tmod d < 0 → -9223372036854775808 < n.tdiv d := fun hr => by
    apply Classical.byContradiction; intro hc
    have h5 : d * n.tdiv d ≤ 1 * n.tdiv d := Int.mul_le_mul_of_nonpos_right h1 (by omega)
    omega
  have b7 : n.tdiv d ≤ 9223372036854775807 := by
    apply Classical.byContradiction; intro hc
    have h5 : 1 * (n.tdiv d - 1) ≤ d * (n.tdiv d - 1) := Int.mul_le_mul_of_nonneg_right h1 (by omega)
    have h6 : d * (n.tdiv d - 1) = d * n.tdiv d - d := by rw [Int.mul_sub, Int.mul_one]
    omega
  generalize n.tdiv d = q at *
  generalize n.tmod d = r at *
  simp only [rs, wrap64_id (n := q) (by omega) (by omega)]
  by_cases hr : r < 0
  · have b5 := b5 hr
    simp only [rs, hr, decide_true, wrap64_id (n := q - 1) (by omega) (by omega), wrap64_id (n := r + d) (by omega) (by omega)]
    refine hJ _ _ fun _ => ?_
    simp only [gd, S_foliantref02_nearest_0]
    refine join fun J hJ => ?_
    simp only [rs, wrap64_id (n := d - (r + d)) (by omega) (by omega), wrap64_id (n := q - 1 + 1) (by omega) (by omega)]
    by_cases h : d - (r + d) ≤ r + d <;> simp only [rs, h, decide_true, decide_false] <;> refine hJ _ _ fun _ => hK _ _ ⟨?_, rfl⟩ <;> rw [c1 hr] <;> simp [h]
  · simp only [rs, hr, decide_false]
    refine hJ _ _ fun _ => ?_
    simp only [gd, S_foliantref02_nearest_0]
    refine join fun J hJ => ?_
    have b6 : q + 1 ≤ 9223372036854775807 ∨ ¬ (d - r ≤ r) := by
      by_cases hq : q = 9223372036854775807
      · right
        intro hc
        have h5 : 2 * q ≤ d * q := Int.mul_le_mul_of_nonneg_right (by omega) (by omega)
        omega
      · left; omega
    simp only [rs, wrap64_id (n := d - r) (by omega) (by omega)]
    by_cases h : d - r ≤ r
    · simp only [rs, h, decide_true, wrap64_id (n := q + 1) (by omega) (by omega)]
      refine hJ _ _ fun _ => hK _ _ ⟨?_, rfl⟩
      rw [c2 (by omega)]; simp [h]
    · simp only [rs, h, decide_false]
      refine hJ _ _ fun _ => hK _ _ ⟨?_, rfl⟩
      rw [c2 (by omega)]; simp [h]

def ints (zs : List Int) : List Value := zs.map (Value.int .i64)
theorem ints_get {zs : List Int} {k : Nat} (h : k < zs.length) : (ints zs)[k]? = some (.int .i64 zs[k]) := by simp [ints, h]
theorem take_all (zs : List Int) (k : Nat) (h : k < zs.length) : (zs.take (k + 1)).all Fx.okB = ((zs.take k).all Fx.okB && Fx.okB zs[k]) := by
  rw [List.take_succ_eq_append_getElem h, List.all_append]; simp

theorem bounded_any (v : Value) (zs : List Int) (w : World) (hs : Sl w v 1 zs.length (ints zs)) (hn : zs.length ≤ 9223372036854775806) (K : Ending → World → Prop)
    (hk : zs.all Fx.okB = true → K (.returned (.tuple #[])) w) (hp : zs.all Fx.okB = false → K (.panicked [{ v := .iface 122 (.int .i64 2), recovered := false }]) w) :
    Calls Tryd.prog 70 #[v] w K := by
  refine S_fix_bounded_ok ?_
  unfold S_fix_bounded
  simp only [sl_len Tryd.underlying31 hs]
  refine loop (fun vs w' => w' = w ∧ ∃ k : Nat, k ≤ zs.length ∧ vs = [.int .i64 k] ∧ (zs.take k).all Fx.okB = true) (fun vs _ => zs.length - n0 vs) ⟨rfl, 0, by omega, rfl, by simp⟩ ?_
  rintro vs w' ⟨rfl, k, hkl, rfl, hall⟩ _
  simp only [S_fix_bounded_0, gd, rs]
  by_cases hlt : k < zs.length
  · have hlt' : (k : Int) < (zs.length : Int) := by omega
    simp only [rs, hlt', decide_true]
    refine join fun J hJ => ?_
    refine sl_ia1 (.int .i64 zs[k]) Tryd.underlying31 (by kernel_rfl) hs (by omega) (by rw [Int.toNat_natCast]; exact ints_get hlt) fun p hpc => ?_
    simp only [l_cell (show notAgg Tryd.prog 2 = true by kernel_rfl) hpc]
    refine c_eq (within_ret _ _) ?_
    have ht := take_all zs k hlt
    cases hb : Fx.okB zs[k] with
    | true =>
      simp only [rs]
      refine hJ _ _ fun _ => ?_
      simp only [S_fix_bounded_1, rs]
      rw [wrap64_id (by omega) (by omega)]
      exact nextX ⟨rfl, k + 1, hlt, by simp, by rw [ht, hall, hb]; rfl⟩ (by simp [n0, intOf]; omega)
    | false =>
      simp only [rs, m_iface (show notIface Tryd.prog 122 = true by kernel_rfl)]
      refine hp ?_
      have : (zs.take (k + 1)).all Fx.okB = false := by rw [ht, hb]; simp
      rw [← List.take_append_drop (k + 1) zs, List.all_append, this]; rfl
  · have hlt' : ¬ (k : Int) < (zs.length : Int) := by omega
    simp only [rs, hlt', decide_false]
    exact hk (by rw [List.take_of_length_le (by omega)] at hall; exact hall)

theorem answer_any (n : Int) (w : World) (K : Ending → World → Prop)
    (hk : Fx.okB n = true → ∀ w', Below w.heap.size w w' → K (.returned (.int .i64 n)) w') (hp : Fx.okB n = false → ∀ w', Below w.heap.size w w' → K (.panicked [{ v := .iface 122 (.int .i64 2), recovered := false }]) w') :
    Calls Tryd.prog 78 #[.int .i64 n] w K := by
  refine S_fix_answer_ok ?_
  unfold S_fix_answer
  refine o_new (fun b => .slice (some ⟨b, 0, none⟩) 1 1) [.int .i64 n] 2 (fun _ => by kernel_rfl) (Own.start w) fun b w1 ho => ?_
  refine c_any (bounded_any _ [n] w1 (ho.sl 0 rfl 1 1 1 rfl) (by simp) _ (fun h => ?_) (fun h => ?_)) (fun e w' h => h)
  · exact hk (by simpa using h) _ ho.done
  · exact hp (by simpa using h) _ ho.done

theorem near_ret (n d : Int) (w : World) (h2 : -9223372036854775808 ≤ d ∧ d ≤ 9223372036854775807) (h3 : -9223372036854775808 ≤ n) (h4 : n ≤ 9223372036854775807) :
    Ret Tryd.prog 20 #[.int .i64 n, .int .i64 d] w (fun v w' => v = .tuple #[.int .i64 (Fx.nearE n d).1, .int .i64 (Fx.nearE n d).2] ∧ Below w.heap.size w w') := by
  refine ret_of fun K hK => S_fix_Near_ok ?_
  unfold S_fix_Near Fx.nearE at *
  by_cases h : d < 1
  · simp only [rs, h, decide_true] at *
    exact hK _ _ ⟨by simp, Below.refl _ _⟩
  · by_cases ha : n < -4611686018427387904
    · simp only [rs, h, ha, decide_true, decide_false]
      exact hK _ _ ⟨by simp [h, ha], Below.refl _ _⟩
    · by_cases hb : 4611686018427387904 < n
      · simp only [rs, h, ha, hb, decide_true, decide_false]
        exact hK _ _ ⟨by simp [h, ha, hb], Below.refl _ _⟩
      · simp only [rs, h, ha, hb, decide_true, decide_false]
        refine c_ret (nearest_ret n d w (by omega) h2.2 h3 h4) ?_
        rintro v w' ⟨rfl, hw⟩
        exact hK _ _ ⟨by simp [h, ha, hb], hw⟩
theorem whole_ret (n : Int) (w : World) (h3 : -9223372036854775808 ≤ n) (h4 : n ≤ 9223372036854775807) :
    Ret Tryd.prog 26 #[.int .i64 n] w (fun v w' => v = .int .i64 (Fx.near n 10000) ∧ Below w.heap.size w w') := by
  refine ret_of fun K hK => S_fix_Whole_ok ?_
  unfold S_fix_Whole
  refine c_ret (nearest_ret n 10000 w (by omega) (by omega) h3 h4) ?_
  rintro v w' ⟨rfl, hw⟩
  exact hK _ _ ⟨rfl, hw⟩
end Go.Proofs.YtfnpfbgnhncgpaaDoor
