/- The laws of layer 2, walked: FixBack, FixTurns. -/
import Derived.Test.YtfnpfbgnhncgpaaDoorFixY
import Derived.Test.YtfnpfbgnhncgpaaDoorPlain02B
namespace Go.Proofs.YtfnpfbgnhncgpaaDoor
set_option linter.unusedVariables false
set_option linter.unusedSimpArgs false
set_option linter.defProp false
open Eng Go.RowKit
set_option linter.unusedVariables false
set_option linter.unusedSimpArgs false

theorem text_len (n : Int) : (Fx.text n).length ≤ 200 := by
  unfold Fx.text
  have h1 := Fx.row_len (n.natAbs / 10000) 1
  have h2 := Fx.fpart_len n.natAbs
  split
  · have h3 : (if n < 0 then ([45] : List UInt8) else []).length ≤ 1 := by split <;> simp
    simp only [List.length_append, List.length_cons, List.length_nil]; omega
  · simp
theorem fixBack_ret (n : Int) (w : World) : Ret Tryd.prog 5 #[.int .i64 n] w (fun v w' => v = .bool true ∧ Below w.heap.size w w') := by
  refine ret_of fun K hK => S_foliantlaw02_FixBack_ok ?_
  unfold S_foliantlaw02_FixBack
  have hlen := text_len n
  refine c_told (ptext_ret n w) rfl (Own.start w) fun w1 h1 => ?_
  have fin0 : CallX Tryd.prog 17 #[] w1 (pk K) fun t ww => K (.returned t) ww :=
    c_told (lives_ret w1) rfl h1 fun w2 h2 => hK _ _ ⟨rfl, h2.done⟩
  by_cases c1 : n < -1073741824
  · have ht : Fx.text n = [] := by rw [Fx.text, if_neg (by simp [Fx.okB]; omega)]
    simp only [c1, decide_true, rs, g_un, ht]
    exact fin0
  · by_cases c2 : 1073741824 < n
    · have ht : Fx.text n = [] := by rw [Fx.text, if_neg (by simp [Fx.okB]; omega)]
      simp only [c1, c2, decide_true, decide_false, rs, g_un, ht]
      exact fin0
    · have hok : Fx.okB n = true := by simp [Fx.okB]; omega
      obtain ⟨r1, _⟩ := Fx.read_text n hok 0 (by omega)
      obtain ⟨r2, r3⟩ := Fx.read_text n hok 3 (by omega)
      simp only [List.replicate_zero, List.append_nil] at r1
      simp only [c1, c2, decide_false, rs, g_un]
      refine c_told (pread_ret (Fx.text n) w1 (by omega)) (show _ = pair (n, 0) by rw [r1]) h1 fun w2 h2 => ?_
      simp only [pair, ex]
      rw [s_add (b := [48, 48, 48]) (by simp; omega)]
      refine c_told (pread_ret (Fx.text n ++ [48, 48, 48]) w2 (by simp; omega)) (show _ = pair (n, 0) by rw [show ([48, 48, 48] : List UInt8) = List.replicate 3 48 from rfl, r2]) h2 fun w3 h3 => ?_
      simp only [pair, ex, rs]
      refine join fun J hJ => ?_
      have fin : ∀ w4, Own w w4 [] → J [] w4 := by
        intro w4 h4
        refine hJ _ _ fun _ => ?_
        simp only [S_foliantlaw02_FixBack_0, rs, decide_true]
        refine c_told (lives_ret w4) rfl h4 fun w5 h5 => ?_
        exact hK _ _ ⟨rfl, h5.done⟩
      by_cases h0 : (0 : Int) ≤ n
      · simp only [h0, decide_true, rs]
        rw [s_add (a := [43, 48]) (by simp; omega)]
        refine c_told (pread_ret ([43, 48] ++ Fx.text n) w3 (by simp; omega)) (show _ = pair (n, 0) by rw [r3 h0]) h3 fun w4 h4 => ?_
        simp only [pair, ex, rs, ne_eq, not_true_eq_false, decide_false]
        exact fin w4 h4
      · simp only [h0, decide_false, rs]
        exact fin w3 h3

theorem near_mul (a d : Int) (h : 0 < d) : Fx.near (a * d) d = a := by
  refine Fx.near_unique _ _ _ h ?_ ?_
  · have e : d * (2 * a - 1) = 2 * (a * d) - d := by rw [Int.mul_sub, Int.mul_one, Int.mul_left_comm, Int.mul_comm d a]
    omega
  · have e : d * (2 * a + 1) = 2 * (a * d) + d := by rw [Int.mul_add, Int.mul_one, Int.mul_left_comm, Int.mul_comm d a]
    omega
theorem fx_mul_one {a : Int} (h : Fx.okB a = true) : Fx.mul a 10000 = (a, 0) := by
  rw [Fx.mul, h, show Fx.okB 10000 = true from rfl, Bool.and_self, if_pos rfl, near_mul _ _ (by omega), Fx.ans, if_pos h]
theorem fx_div_one {a : Int} (h : Fx.okB a = true) : Fx.div a 10000 = (a, 0) := by
  rw [Fx.div, h, show Fx.okB 10000 = true from rfl, Bool.and_self, if_pos rfl, if_neg (by omega), if_neg (by omega), Int.mul_comm, near_mul _ _ (by omega), Fx.ans, if_pos h]
theorem fx_mul_comm (a b : Int) : Fx.mul b a = Fx.mul a b := by rw [Fx.mul, Fx.mul, Bool.and_comm, Int.mul_comm]
theorem fx_dot_swap (a b c : Int) : Fx.dot [a, c, b, a] = Fx.dot [a, b, c, a] := by
  have e : Fx.dotS [a, c, b, a] = Fx.dotS [a, b, c, a] := by
    simp only [Fx.dotS, Int.add_zero]
    rw [Int.mul_comm b a, Int.mul_comm c a, Int.add_comm]
  have e2 : [a, c, b, a].all Fx.okB = [a, b, c, a].all Fx.okB := by
    simp only [List.all_cons, List.all_nil]
    cases Fx.okB a <;> cases Fx.okB b <;> cases Fx.okB c <;> rfl
  simp only [Fx.dot, e, e2, List.length_cons, List.length_nil]
theorem fx_sum_swap (a b c : Int) : Fx.sum [c, b, a] = Fx.sum [a, b, c] := by
  have e : [c, b, a].sum = [a, b, c].sum := by simp only [List.sum_cons, List.sum_nil]; omega
  have e2 : [c, b, a].all Fx.okB = [a, b, c].all Fx.okB := by
    simp only [List.all_cons, List.all_nil]
    cases Fx.okB a <;> cases Fx.okB b <;> cases Fx.okB c <;> rfl
  rw [Fx.sum, Fx.sum, e, e2]
theorem fixTurns_ret (a b c : Int) (w : World) : Ret Tryd.prog 7 #[.int .i64 a, .int .i64 b, .int .i64 c] w (fun v w' => v = .bool true ∧ Below w.heap.size w w') := by
  refine ret_of fun K hK => S_foliantlaw02_FixTurns_ok ?_
  unfold S_foliantlaw02_FixTurns
  refine c_told (mul_ret a b w) rfl (Own.start w) fun w1 h1 => ?_
  simp only [pair, ex]
  refine c_told (mul_ret b a w1) (by rw [fx_mul_comm]) h1 fun w2 h2 => ?_
  simp only [pair, ex]
  refine o_new (fun b => .slice (some ⟨b, 0, none⟩) 4 4) [.int .i64 a, .int .i64 b, .int .i64 c, .int .i64 a] 2 (fun _ => by kernel_rfl) h2 fun b3 w3 h3 => ?_
  refine c_told (dot_ret _ [a, b, c, a] w3 (h3.sl 0 rfl 1 4 4 rfl) (by simp)) rfl h3.tail fun w4 h4 => ?_
  simp only [pair, ex]
  refine o_new (fun b => .slice (some ⟨b, 0, none⟩) 4 4) [.int .i64 a, .int .i64 c, .int .i64 b, .int .i64 a] 2 (fun _ => by kernel_rfl) h4 fun b5 w5 h5 => ?_
  refine c_told (dot_ret _ [a, c, b, a] w5 (h5.sl 0 rfl 1 4 4 rfl) (by simp)) (by rw [fx_dot_swap]) h5.tail fun w6 h6 => ?_
  simp only [pair, ex]
  refine o_new (fun b => .slice (some ⟨b, 0, none⟩) 3 3) [.int .i64 a, .int .i64 b, .int .i64 c] 2 (fun _ => by kernel_rfl) h6 fun b7 w7 h7 => ?_
  refine c_told (sum_ret _ [a, b, c] w7 (h7.sl 0 rfl 1 3 3 rfl) (by simp)) rfl h7.tail fun w8 h8 => ?_
  simp only [pair, ex]
  refine o_new (fun b => .slice (some ⟨b, 0, none⟩) 3 3) [.int .i64 c, .int .i64 b, .int .i64 a] 2 (fun _ => by kernel_rfl) h8 fun b9 w9 h9 => ?_
  refine c_told (sum_ret _ [c, b, a] w9 (h9.sl 0 rfl 1 3 3 rfl) (by simp)) (by rw [fx_sum_swap]) h9.tail fun w10 h10 => ?_
  simp only [pair, ex, rs, ne_eq, not_true_eq_false, decide_false]
  by_cases c1 : a < -1073741824
  · have ho : Fx.okB a = false := by simp [Fx.okB]; omega
    have : Fx.mul a b = (0, 2) := by rw [Fx.mul, ho]; rfl
    simp only [c1, decide_true, rs, g_un, this]
    refine c_told (lives_ret w10) rfl h10 fun w11 h11 => ?_
    exact hK _ _ ⟨rfl, h11.done⟩
  · by_cases c2 : 1073741824 < a
    · have ho : Fx.okB a = false := by simp [Fx.okB]; omega
      have : Fx.mul a b = (0, 2) := by rw [Fx.mul, ho]; rfl
      simp only [c1, c2, decide_true, decide_false, rs, g_un, this]
      refine c_told (lives_ret w10) rfl h10 fun w11 h11 => ?_
      exact hK _ _ ⟨rfl, h11.done⟩
    · have ho : Fx.okB a = true := by simp [Fx.okB]; omega
      simp only [c1, c2, decide_false, rs, g_un]
      refine c_told (mul_ret a 10000 w10) (show _ = pair (a, 0) by rw [fx_mul_one ho]) h10 fun w11 h11 => ?_
      simp only [pair, ex]
      refine c_told (div_ret a 10000 w11) (show _ = pair (a, 0) by rw [fx_div_one ho]) h11 fun w12 h12 => ?_
      simp only [pair, ex, rs, ne_eq, not_true_eq_false, decide_false]
      refine c_ret (proot_ret a w12) ?_
      rintro v w13 ⟨⟨x, rfl, hx⟩, b13⟩
      have h13 := h12.grow b13
      unfold Fx.rootP at hx
      rw [if_pos ho] at hx
      by_cases hn : a < 0
      · rw [if_pos hn] at hx
        subst hx
        simp only [pair, ex, rs, hn, decide_true]
        refine c_told (lives_ret w13) rfl h13 fun w14 h14 => ?_
        exact hK _ _ ⟨rfl, h14.done⟩
      · rw [if_neg hn] at hx
        obtain ⟨r, ⟨r0, r1, r2⟩, rfl⟩ := hx
        have hr : r < 1073741824 := by
          apply Classical.byContradiction; intro hc
          have : 1073741824 * 1073741824 ≤ r * r := Int.mul_le_mul (by omega) (by omega) (by omega) (by omega)
          omega
        have hs0 : 0 ≤ r * r := Int.mul_nonneg r0 r0
        have hs1 : (r + 1) * (r + 1) ≤ 1073741824 * 1073741824 := Int.mul_le_mul (by omega) (by omega) (by omega) (by omega)
        have hs2 : 0 ≤ (r + 1) * (r + 1) := Int.mul_nonneg (by omega) (by omega)
        have e1 := wrap64_id (n := r * r) (by omega) (by omega)
        have e2 := wrap64_id (n := a * 10000) (by omega) (by omega)
        have e3 := wrap64_id (n := r + 1) (by omega) (by omega)
        have e4 := wrap64_id (n := (r + 1) * (r + 1)) (by omega) (by omega)
        have r1' : r * r ≤ a * 10000 := by omega
        have r2' : a * 10000 < (r + 1) * (r + 1) := by omega
        simp only [pair, ex, rs, hn, decide_true, decide_false, r0, hr, e1, e2, e3, e4, r1', r2']
        refine c_told (lives_ret w13) rfl h13 fun w14 h14 => ?_
        exact hK _ _ ⟨rfl, h14.done⟩
end Go.Proofs.YtfnpfbgnhncgpaaDoor
