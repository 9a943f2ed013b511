/- Contracts of the program's package fix: the functions that recover. -/
import Derived.Test.YtfnpfbgnhncgpaaDoorFixP
namespace Go.Proofs.YtfnpfbgnhncgpaaDoor
set_option linter.unusedVariables false
set_option linter.unusedSimpArgs false
set_option linter.defProp false
open Eng Go.RowKit
set_option linter.unusedVariables false
set_option linter.unusedSimpArgs false

abbrev faceD (t4 t5 : Value) : Deferred := { target := .fn (.func 65) #[], args := #[t4, t5] }
/-- The panic that the package raises. -/
abbrev refusedE (e : Int) : PanicEntry := { v := .iface 122 (.int .i64 e), recovered := false }
theorem face_plain : plainB Tryd.prog 65 = true := by kernel_rfl
theorem face_idle (p q : Addr) (w : World) : CallsD Tryd.prog 65 #[.pointer (some p), .pointer (some q)] .returning w (fun e u' w' => e = .returned (.tuple #[]) ∧ u' = .returning ∧ w = w') := by
  refine S_fix_face_dok ?_
  simp only [S_fix_face, recV, recM, e_nil Tryd.underlying20, rs]
  simp
/-- No panic: the results are read out of their cells. -/
theorem door_ok {w0 w : World} {L : List Ent} (i j : Nat) {b1 b2 : Nat} {n e : Int} (h : Own w0 w L) (h1 : L[i]? = some (.cells b1 [.int .i64 n] 2)) (h2 : L[j]? = some (.cells b2 [.int .i64 e] 23)) (K : Ending → World → Prop)
    (hk : ∀ w', Below w0.heap.size w0 w' → K (.returned (.tuple #[.int .i64 n, .int .i64 e])) w') :
    Leave Tryd.prog [.cell (.pointer (some ⟨b1, 0, none⟩)) 2, .cell (.pointer (some ⟨b2, 0, none⟩)) 23] K [faceD (.pointer (some ⟨b1, 0, none⟩)) (.pointer (some ⟨b2, 0, none⟩))] .returning w := by
  refine leave_func (by simp) face_plain ((face_idle _ _ w).mono ?_)
  rintro e' u' w' ⟨rfl, rfl, rfl⟩
  exact ret_cell2 (by kernel_rfl) (by kernel_rfl) (h.cell i h1 0 rfl) (h.cell j h2 0 rfl) (hk _ h.done)
/-- A refusal: zero and the error. -/
theorem door_bad {w0 w : World} {b1 b2 : Nat} {n e0 e : Int} (h : Own w0 w [.cells b2 [.int .i64 e0] 23, .cells b1 [.int .i64 n] 2]) (K : Ending → World → Prop)
    (hk : ∀ w', Below w0.heap.size w0 w' → K (.returned (.tuple #[.int .i64 0, .int .i64 e])) w') :
    Leave Tryd.prog [.cell (.pointer (some ⟨b1, 0, none⟩)) 2, .cell (.pointer (some ⟨b2, 0, none⟩)) 23] K [faceD (.pointer (some ⟨b1, 0, none⟩)) (.pointer (some ⟨b2, 0, none⟩))] (.panicking [refusedE e]) w := by
  refine leave_func (by simp) face_plain (S_fix_face_dok ?_)
  simp only [S_fix_face, recV, recM, e_some Tryd.underlying20, rs, t_hit (show notIface Tryd.prog 122 = true by kernel_rfl),
    x_ext (show [Value.int .i64 e, Value.bool true][1]? = some (Value.bool true) from rfl), x_ext (show [Value.int .i64 e, Value.bool true][0]? = some (Value.int .i64 e) from rfl)]
  refine o_store 1 h rfl (by kernel_rfl) rfl (by simp) fun w1 h1 => ?_
  refine o_store 0 h1 rfl (by kernel_rfl) rfl (by simp) fun w2 h2 => ?_
  exact ret_cell2 (by kernel_rfl) (by kernel_rfl) (h2.cell 1 rfl 0 rfl) (h2.cell 0 rfl 0 rfl) (hk _ h2.done)

abbrev pair (x : Int × Int) : Value := .tuple #[.int .i64 x.1, .int .i64 x.2]
theorem okB_bd {n : Int} (h : Fx.okB n = true) : -1073741824 ≤ n ∧ n ≤ 1073741824 := by simpa [Fx.okB] using h
theorem mul_bd {a b m k : Int} (ha : -m ≤ a ∧ a ≤ m) (hb : -k ≤ b ∧ b ≤ k) (hm : 0 ≤ m) : -(m * k) ≤ a * b ∧ a * b ≤ m * k := by
  have h1 : a.natAbs ≤ m.toNat := by omega
  have h2 : b.natAbs ≤ k.toNat := by omega
  have h3 : (a * b).natAbs ≤ (m * k).natAbs := by
    rw [Int.natAbs_mul, Int.natAbs_mul]
    exact Nat.mul_le_mul (by omega) (by omega)
  have h4 : 0 ≤ m * k := Int.mul_nonneg hm (by omega)
  omega
theorem mul_ok {a b : Int} (ha : Fx.okB a = true) (hb : Fx.okB b = true) : -1152921504606846976 ≤ a * b ∧ a * b ≤ 1152921504606846976 := mul_bd (m := 1073741824) (k := 1073741824) (by have := okB_bd ha; omega) (by have := okB_bd hb; omega) (by omega)

/-- The last lines of Mul, Div, Dot: the rounded quotient, if it is in range. -/
theorem tail_any (q : Int) (w0 w : World) (b1 b2 : Nat) (n0 e0 : Int) (h : Own w0 w [.cells b2 [.int .i64 e0] 23, .cells b1 [.int .i64 n0] 2]) (K : Ending → World → Prop)
    (hk : ∀ w', Below w0.heap.size w0 w' → K (.returned (pair (Fx.ans q))) w') (PK : List PanicEntry → World → Prop)
    (hPK : ∀ c w, Leave Tryd.prog [.cell (.pointer (some ⟨b1, 0, none⟩)) 2, .cell (.pointer (some ⟨b2, 0, none⟩)) 23] K [faceD (.pointer (some ⟨b1, 0, none⟩)) (.pointer (some ⟨b2, 0, none⟩))] (.panicking c) w → PK c w) :
    CallX Tryd.prog 78 #[.int .i64 q] w PK fun t14 w =>
      DoX Tryd.prog (mStore 2 (.pointer (some ⟨b1, 0, none⟩)) t14) w PK fun _ w =>
      DoX Tryd.prog (mStore 23 (.pointer (some ⟨b2, 0, none⟩)) (.int .i64 0)) w PK fun _ w =>
      Leave Tryd.prog [.cell (.pointer (some ⟨b1, 0, none⟩)) 2, .cell (.pointer (some ⟨b2, 0, none⟩)) 23] K [faceD (.pointer (some ⟨b1, 0, none⟩)) (.pointer (some ⟨b2, 0, none⟩))] .returning w := by
  refine c_any (answer_any q w _ (fun hq w1 hb => ?_) (fun hq w1 hb => ?_)) (fun _ _ h => h)
  · refine o_store 1 (h.grow hb) rfl (by kernel_rfl) rfl (by simp) fun w2 h2 => ?_
    refine o_store 0 h2 rfl (by kernel_rfl) rfl (by simp) fun w3 h3 => ?_
    refine door_ok 1 0 h3 rfl rfl K ?_
    rw [Fx.ans, if_pos hq] at hk; exact hk
  · refine hPK _ _ (door_bad (h.grow hb) K ?_)
    rw [Fx.ans, if_neg (by simp [hq])] at hk; exact hk

theorem mul_ret (a b : Int) (w : World) : Ret Tryd.prog 28 #[.int .i64 a, .int .i64 b] w (fun v w' => v = pair (Fx.mul a b) ∧ Below w.heap.size w w') := by
  refine ret_of fun K hK => S_fix_Mul_ok ?_
  unfold S_fix_Mul
  refine o_new (fun b => .pointer (some ⟨b, 0, none⟩)) [.int .i64 0] 2 (fun _ => by kernel_rfl) (Own.start w) fun b1 w1 h1 => ?_
  refine o_new (fun b => .pointer (some ⟨b, 0, none⟩)) [.int .i64 0] 23 (fun _ => by kernel_rfl) h1 fun b2 w2 h2 => ?_
  refine o_new (fun b => .slice (some ⟨b, 0, none⟩) 2 2) [.int .i64 a, .int .i64 b] 2 (fun _ => by kernel_rfl) h2 fun b3 w3 h3 => ?_
  refine c_any (bounded_any _ [a, b] w3 (h3.sl 0 rfl 1 2 2 rfl) (by simp) _ (fun hok => ?_) (fun hbad => ?_)) (fun _ _ h => h)
  · simp only [List.all_cons, List.all_nil, Bool.and_true, Bool.and_eq_true] at hok
    have hm := mul_ok hok.1 hok.2
    simp only [Cont, rs]
    rw [wrap64_id (by omega) (by omega)]
    refine c_ret (nearest_ret _ 10000 _ (by omega) (by omega) (by omega) (by omega)) ?_
    rintro v w4 ⟨rfl, hw⟩
    refine tail_any _ w w4 b1 b2 0 0 (h3.tail.grow hw) K (fun w' hb => hK _ _ ⟨?_, hb⟩) _ (fun _ _ h => h)
    simp [Fx.mul, hok.1, hok.2]
  · refine door_bad h3.tail K (fun w' hb => hK _ _ ⟨?_, hb⟩)
    have : (Fx.okB a && Fx.okB b) = false := by simpa using hbad
    simp [Fx.mul, this]

theorem div_ret (a b : Int) (w : World) : Ret Tryd.prog 30 #[.int .i64 a, .int .i64 b] w (fun v w' => v = pair (Fx.div a b) ∧ Below w.heap.size w w') := by
  refine ret_of fun K hK => S_fix_Div_ok ?_
  unfold S_fix_Div
  refine o_new (fun b => .pointer (some ⟨b, 0, none⟩)) [.int .i64 0] 2 (fun _ => by kernel_rfl) (Own.start w) fun b1 w1 h1 => ?_
  refine o_new (fun b => .pointer (some ⟨b, 0, none⟩)) [.int .i64 0] 23 (fun _ => by kernel_rfl) h1 fun b2 w2 h2 => ?_
  refine o_new (fun b => .slice (some ⟨b, 0, none⟩) 2 2) [.int .i64 a, .int .i64 b] 2 (fun _ => by kernel_rfl) h2 fun b3 w3 h3 => ?_
  refine c_any (bounded_any _ [a, b] w3 (h3.sl 0 rfl 1 2 2 rfl) (by simp) _ (fun hok => ?_) (fun hbad => ?_)) (fun _ _ h => h)
  · simp only [List.all_cons, List.all_nil, Bool.and_true, Bool.and_eq_true] at hok
    have ha := okB_bd hok.1
    have hb := okB_bd hok.2
    have step : ∀ x y : Int, -1073741824 ≤ x → x ≤ 1073741824 → 1 ≤ y → y ≤ 1073741824 → Fx.div a b = Fx.ans (Fx.near (10000 * x) y) →
        S_fix_Div_0 (.int .i64 x) (.int .i64 y) (.pointer (some ⟨b1, 0, none⟩)) (.pointer (some ⟨b2, 0, none⟩)) w3 K := by
      intro x y hx1 hx2 hy1 hy2 he
      unfold S_fix_Div_0
      simp only [rs]
      rw [wrap64_id (by omega) (by omega)]
      refine c_ret (nearest_ret _ y _ (by omega) (by omega) (by omega) (by omega)) ?_
      rintro v w4 ⟨rfl, hw⟩
      refine tail_any _ w w4 b1 b2 0 0 (h3.tail.grow hw) K (fun w' hb => hK _ _ ⟨?_, hb⟩) _ (fun _ _ h => h)
      rw [he]
    refine join fun J hJ => ?_
    by_cases hz : b = 0
    · simp only [rs, hz, decide_true]
      refine o_store 2 h3 rfl (by kernel_rfl) rfl (by simp) fun w4 h4 => ?_
      refine o_store 1 h4 rfl (by kernel_rfl) rfl (by simp) fun w5 h5 => ?_
      refine door_ok 2 1 h5 rfl rfl K (fun w' hb => hK _ _ ⟨?_, hb⟩)
      have h00 : Fx.okB 0 = true := rfl
      rw [hz] at hok
      simp [Fx.div, hok.1, hz, h00]
    · by_cases hn : b < 0
      · simp only [rs, hz, hn, decide_true, decide_false]
        refine AtX.mk rfl (hJ _ _ fun _ => ?_)
        simp only [gd]
        rw [wrap64_id (n := -a) (by omega) (by omega), wrap64_id (n := -b) (by omega) (by omega)]
        exact step (-a) (-b) (by omega) (by omega) (by omega) (by omega) (by simp [Fx.div, hok.1, hok.2, hz, hn])
      · simp only [rs, hz, hn, decide_true, decide_false]
        refine AtX.mk rfl (hJ _ _ fun _ => ?_)
        simp only [gd]
        exact step a b (by omega) (by omega) (by omega) (by omega) (by simp [Fx.div, hok.1, hok.2, hz, hn])
  · refine door_bad h3.tail K (fun w' hb => hK _ _ ⟨?_, hb⟩)
    have : (Fx.okB a && Fx.okB b) = false := by simpa using hbad
    simp [Fx.div, this]

theorem sum_take (zs : List Int) (k : Nat) (h : k < zs.length) : (zs.take (k + 1)).sum = (zs.take k).sum + zs[k] := by
  rw [List.take_succ_eq_append_getElem h, List.sum_append]; simp
theorem sum_bd (zs : List Int) (h : zs.all Fx.okB = true) : -(1073741824 * (zs.length : Int)) ≤ zs.sum ∧ zs.sum ≤ 1073741824 * (zs.length : Int) := by
  induction zs with
  | nil => simp
  | cons a t ih =>
    simp only [List.all_cons, Bool.and_eq_true] at h
    have := ih h.2
    have := okB_bd h.1
    simp only [List.sum_cons, List.length_cons]
    push_cast
    omega
theorem sum_ret (v : Value) (zs : List Int) (w : World) (hs : Sl w v 1 zs.length (ints zs)) (hn : zs.length ≤ 300) : Ret Tryd.prog 34 #[v] w (fun v w' => v = pair (Fx.sum zs) ∧ Below w.heap.size w w') := by
  refine ret_of fun K hK => S_fix_Sum_ok ?_
  unfold S_fix_Sum
  refine o_new (fun b => .pointer (some ⟨b, 0, none⟩)) [.int .i64 0] 2 (fun _ => by kernel_rfl) (Own.start w) fun b1 w1 h1 => ?_
  refine o_new (fun b => .pointer (some ⟨b, 0, none⟩)) [.int .i64 0] 23 (fun _ => by kernel_rfl) h1 fun b2 w2 h2 => ?_
  refine c_any (bounded_any _ zs w2 (h2.oldSl hs) (by omega) _ (fun hok => ?_) (fun hbad => ?_)) (fun _ _ h => h)
  · simp only [Cont, sl_len Tryd.underlying31 (h2.oldSl hs)]
    refine loop (fun vs w' => ∃ k : Nat, k ≤ zs.length ∧ vs = [.int .i64 k] ∧ Own w w' [.cells b2 [.int .i64 0] 23, .cells b1 [.int .i64 (zs.take k).sum] 2]) (fun vs _ => zs.length - n0 vs) ⟨0, by omega, rfl, by simpa using h2⟩ ?_
    rintro vs w' ⟨k, hkl, rfl, ho⟩ _
    simp only [S_fix_Sum_0, gd, rs]
    have hallk : (zs.take k).all Fx.okB = true := by
      rw [List.all_eq_true] at hok ⊢
      exact fun x hx => hok x (List.mem_of_mem_take hx)
    have hbd := sum_bd _ hallk
    have hlk : (zs.take k).length = k := by simp; omega
    rw [hlk] at hbd
    by_cases hlt : k < zs.length
    · have hlt' : (k : Int) < (zs.length : Int) := by omega
      simp only [rs, hlt', decide_true]
      refine sl_ia1 (.int .i64 zs[k]) Tryd.underlying31 (by kernel_rfl) (ho.oldSl hs) (by omega) (by rw [Int.toNat_natCast]; exact ints_get hlt) fun p hpc => ?_
      have ht := okB_bd (List.all_eq_true.1 hok zs[k] (List.getElem_mem hlt))
      simp only [l_cell (show notAgg Tryd.prog 2 = true by kernel_rfl) hpc, l_cell (show notAgg Tryd.prog 2 = true by kernel_rfl) (ho.cell 1 rfl 0 rfl), rs]
      rw [wrap64_id (by omega) (by omega)]
      refine o_store 1 ho rfl (by kernel_rfl) rfl (by simp) fun w4 h4 => ?_
      rw [wrap64_id (by omega) (by omega)]
      refine AtX.mk rfl (nextX ⟨k + 1, hlt, by simp, ?_⟩ (by simp [n0, intOf]; omega))
      rw [sum_take zs k hlt]; exact h4
    · have hlt' : ¬ (k : Int) < (zs.length : Int) := by omega
      simp only [rs, hlt', decide_false, l_cell (show notAgg Tryd.prog 2 = true by kernel_rfl) (ho.cell 1 rfl 0 rfl)]
      refine tail_any _ w w' b1 b2 _ _ ho K (fun w' hb => hK _ _ ⟨?_, hb⟩) _ (fun _ _ h => h)
      rw [List.take_of_length_le (by omega), Fx.sum, if_pos hok]
  · refine door_bad h2 K (fun w' hb => hK _ _ ⟨?_, hb⟩)
    rw [Fx.sum, if_neg (by simp [hbad])]

theorem dot_ret (v : Value) (zs : List Int) (w : World) (hs : Sl w v 1 zs.length (ints zs)) (hn : zs.length ≤ 300) : Ret Tryd.prog 32 #[v] w (fun v w' => v = pair (Fx.dot zs) ∧ Below w.heap.size w w') := by
  refine ret_of fun K hK => S_fix_Dot_ok ?_
  unfold S_fix_Dot
  refine o_new (fun b => .pointer (some ⟨b, 0, none⟩)) [.int .i64 0] 2 (fun _ => by kernel_rfl) (Own.start w) fun b1 w1 h1 => ?_
  refine o_new (fun b => .pointer (some ⟨b, 0, none⟩)) [.int .i64 0] 23 (fun _ => by kernel_rfl) h1 fun b2 w2 h2 => ?_
  simp only [sl_len Tryd.underlying31 (h2.oldSl hs), rs, b_rem (show (2 : Int) ≠ 0 by omega)]
  have bad : (zs.length % 2 = 1 ∨ 8 < zs.length) → DoX Tryd.prog (mStore 2 (.pointer (some ⟨b1, 0, none⟩)) (.int .i64 0)) w2 (S_fix_Dot_p0 (.pointer (some ⟨b1, 0, none⟩)) (.pointer (some ⟨b2, 0, none⟩)) K) fun _ w =>
      DoX Tryd.prog (mStore 23 (.pointer (some ⟨b2, 0, none⟩)) (.int .i64 1)) w (S_fix_Dot_p0 (.pointer (some ⟨b1, 0, none⟩)) (.pointer (some ⟨b2, 0, none⟩)) K) fun _ w =>
      Leave Tryd.prog [.cell (.pointer (some ⟨b1, 0, none⟩)) 2, .cell (.pointer (some ⟨b2, 0, none⟩)) 23] K [faceD (.pointer (some ⟨b1, 0, none⟩)) (.pointer (some ⟨b2, 0, none⟩))] .returning w := by
    intro hb
    refine o_store 1 h2 rfl (by kernel_rfl) rfl (by simp) fun w4 h4 => ?_
    refine o_store 0 h4 rfl (by kernel_rfl) rfl (by simp) fun w5 h5 => ?_
    refine door_ok 1 0 h5 rfl rfl K (fun w' hb' => hK _ _ ⟨?_, hb'⟩)
    rw [Fx.dot, if_pos hb]
  by_cases hodd : zs.length % 2 = 1
  · have e1 : ((zs.length : Int).tmod 2 ≠ 0) := by rw [Int.tmod_eq_emod_of_nonneg (by omega)]; omega
    simp only [e1, decide_true, rs, ne_eq, not_false_eq_true]
    exact bad (.inl hodd)
  · have e1 : ¬ ((zs.length : Int).tmod 2 ≠ 0) := by rw [Int.tmod_eq_emod_of_nonneg (by omega)]; omega
    by_cases h8 : 8 < zs.length
    · have e2 : (8 : Int) < (zs.length : Int) := by omega
      simp only [e1, e2, decide_true, decide_false, rs, sl_len Tryd.underlying31 (h2.oldSl hs)]
      exact bad (.inr h8)
    · have e2 : ¬ (8 : Int) < (zs.length : Int) := by omega
      simp only [e1, e2, decide_false, rs, sl_len Tryd.underlying31 (h2.oldSl hs)]
      refine c_any (bounded_any _ zs w2 (h2.oldSl hs) (by omega) _ (fun hok => ?_) (fun hbad => ?_)) (fun _ _ h => h)
      · simp only [Cont]
        have hspec : Fx.dot zs = Fx.ans (Fx.near (Fx.dotS zs) 10000) := by rw [Fx.dot, if_neg (by omega), if_pos hok]
        have hbd := Fx.dotS_bd zs hok
        refine loop (fun vs w' => ∃ k : Nat, k ≤ zs.length ∧ k % 2 = 0 ∧ vs = [.int .i64 k] ∧ Own w w' [.cells b2 [.int .i64 0] 23, .cells b1 [.int .i64 (Fx.dotS (zs.take k))] 2]) (fun vs _ => zs.length - n0 vs) ⟨0, by omega, rfl, rfl, by simpa [Fx.dotS] using h2⟩ ?_
        rintro vs w' ⟨k, hkl, hev, rfl, ho⟩ _
        simp only [S_fix_Dot_0, gd, rs, sl_len Tryd.underlying31 (ho.oldSl hs)]
        have hallk : (zs.take k).all Fx.okB = true := by
          rw [List.all_eq_true] at hok ⊢
          exact fun x hx => hok x (List.mem_of_mem_take hx)
        have hbdk := Fx.dotS_bd _ hallk
        have hlk : (zs.take k).length = k := by simp; omega
        rw [hlk] at hbdk
        by_cases hlt : k < zs.length
        · have hlt' : (k : Int) < (zs.length : Int) := by omega
          have hlt2 : k + 1 < zs.length := by omega
          simp only [rs, hlt', decide_true]
          obtain ⟨b, off, cap, rfl, hcell⟩ := sl_open hs (by omega)
          have hmul := Fx.okB_mul (List.all_eq_true.1 hok zs[k] (List.getElem_mem hlt)) (List.all_eq_true.1 hok zs[k + 1] (List.getElem_mem hlt2))
          have ek : (IntKind.i64.wrap ((k : Int) + 1)) = (k : Int) + 1 := wrap64_id (by omega) (by omega)
          have ek1 : ((k : Int) + 1).toNat = k + 1 := by omega
          have c0 : w.cell? ⟨b, off + (k : Int).toNat * 1, none⟩ = some (.int .i64 zs[k]) := hcell _ _ (by rw [Int.toNat_natCast, Nat.mul_one]; exact ints_get hlt)
          have c1 : w.cell? ⟨b, off + ((k : Int) + 1).toNat * 1, none⟩ = some (.int .i64 zs[k + 1]) := hcell _ _ (by rw [ek1, Nat.mul_one]; exact ints_get hlt2)
          refine quiet (q_at _ (fun wc hw => run_load_cell (by kernel_rfl) ((ho.grow hw).cell 1 rfl 0 rfl)) ?_)
          refine q_do _ (fun _ => run_ia Tryd.underlying31 (show _ = some 1 by kernel_rfl) (by omega) hlt') ?_
          refine q_at _ (fun wc hw => run_load_cell (by kernel_rfl) ((ho.grow hw).old c0)) ?_
          refine q_do _ (fun _ => r_add) ?_
          rw [ek]
          refine q_do _ (fun _ => run_ia Tryd.underlying31 (show _ = some 1 by kernel_rfl) (by omega) (by omega)) ?_
          refine q_at _ (fun wc hw => run_load_cell (by kernel_rfl) ((ho.grow hw).old c1)) ?_
          refine q_do _ (fun _ => r_mul) ?_
          rw [wrap64_id (by omega) (by omega)]
          refine q_do _ (fun _ => r_add) ?_
          rw [wrap64_id (by omega) (by omega)]
          intro wc hw
          refine o_store 1 (ho.grow hw) rfl (by kernel_rfl) rfl (by simp) fun w4 h4 => ?_
          rw [wrap64_id (by omega) (by omega)]
          refine AtX.mk rfl (nextX ⟨k + 2, by omega, by omega, by simp, ?_⟩ (by simp [n0, intOf]; omega))
          rw [Fx.dotS_take zs k hlt2 hev]; exact h4
        · have hlt' : ¬ (k : Int) < (zs.length : Int) := by omega
          simp only [rs, hlt', decide_false, l_cell (show notAgg Tryd.prog 2 = true by kernel_rfl) (ho.cell 1 rfl 0 rfl)]
          refine c_ret (nearest_ret _ 10000 _ (by omega) (by omega) (by omega) (by omega)) ?_
          rintro v w4 ⟨rfl, hw⟩
          refine tail_any _ w w4 b1 b2 _ _ (ho.grow hw) K (fun w' hb => hK _ _ ⟨?_, hb⟩) _ (fun _ _ h => h)
          rw [List.take_of_length_le (by omega), hspec]
      · refine door_bad h2 K (fun w' hb => hK _ _ ⟨?_, hb⟩)
        rw [Fx.dot, if_neg (by omega), if_neg (by simp [hbad])]

theorem root_any (n : Int) (w : World) (K : Ending → World → Prop)
    (hbad : Fx.okB n = false → ∀ w', Below w.heap.size w w' → K (.returned (pair (0, 2))) w')
    (hneg : Fx.okB n = true → n < 0 → ∀ w', Below w.heap.size w w' → K (.returned (pair (0, 1))) w')
    (hok : Fx.okB n = true → 0 ≤ n → ∀ r w', Fx.isqrt (10000 * n) r → Below w.heap.size w w' → K (.returned (pair (r, 0))) w') : Calls Tryd.prog 22 #[.int .i64 n] w K := by
  refine S_fix_Root_ok ?_
  unfold S_fix_Root
  refine o_new (fun b => .pointer (some ⟨b, 0, none⟩)) [.int .i64 0] 2 (fun _ => by kernel_rfl) (Own.start w) fun b1 w1 h1 => ?_
  refine o_new (fun b => .pointer (some ⟨b, 0, none⟩)) [.int .i64 0] 23 (fun _ => by kernel_rfl) h1 fun b2 w2 h2 => ?_
  refine o_new (fun b => .slice (some ⟨b, 0, none⟩) 1 1) [.int .i64 n] 2 (fun _ => by kernel_rfl) h2 fun b3 w3 h3 => ?_
  refine c_any (bounded_any _ [n] w3 (h3.sl 0 rfl 1 1 1 rfl) (by simp) _ (fun ho => ?_) (fun ho => ?_)) (fun _ _ h => h)
  · have ho' : Fx.okB n = true := by simpa using ho
    have hb := okB_bd ho'
    simp only [Cont, rs]
    by_cases hn : n < 0
    · simp only [rs, hn, decide_true]
      refine o_store 2 h3 rfl (by kernel_rfl) rfl (by simp) fun w4 h4 => ?_
      refine o_store 1 h4 rfl (by kernel_rfl) rfl (by simp) fun w5 h5 => ?_
      exact door_ok 2 1 h5 rfl rfl K (hneg ho' hn)
    · simp only [rs, hn, decide_false]
      rw [wrap64_id (by omega) (by omega)]
      generalize hsq : 10000 * n = sq at *
      refine loop (fun vs w' => ∃ (m : Nat) (r : Int), m ≤ 23 ∧ vs = [.int .i64 ((2 ^ m : Int) / 2)] ∧ 0 ≤ r ∧ r + 2 ^ m ≤ 8388608 ∧ r * r ≤ sq ∧ sq < (r + 2 ^ m) * (r + 2 ^ m) ∧ Own w w' [.cells b2 [.int .i64 0] 23, .cells b1 [.int .i64 r] 2])
        (fun vs _ => n0 vs) ⟨23, 0, by omega, rfl, by omega, by omega, by omega, by omega, h3.tail⟩ ?_
      rintro vs w' ⟨m, r, hm, rfl, hr, hr2, hr3, hr4, ho⟩ _
      simp only [S_fix_Root_0, gd, rs]
      cases m with
      | zero =>
        simp only [Int.pow_zero, show (1 : Int) / 2 = 0 from rfl, show ¬ ((0 : Int) < 0) by omega, decide_false, rs, l_cell (show notAgg Tryd.prog 2 = true by kernel_rfl) (ho.cell 1 rfl 0 rfl)]
        refine o_store 1 ho rfl (by kernel_rfl) rfl (by simp) fun w4 h4 => ?_
        refine o_store 0 h4 rfl (by kernel_rfl) rfl (by simp) fun w5 h5 => ?_
        exact door_ok 1 0 h5 rfl rfl K (fun w' hb => hok ho' (by omega) r w' ⟨hr, hr3, hr4⟩ hb)
      | succ m =>
        have e : (2 ^ (m + 1) : Int) = 2 * 2 ^ m := by rw [Int.pow_succ]; omega
        have hp : (1 : Int) ≤ 2 ^ m := Int.pow_pos (by omega)
        rw [e] at hr2 hr4 ⊢
        rw [show (2 * 2 ^ m : Int) / 2 = 2 ^ m by omega]
        generalize hd : (2 ^ m : Int) = d at *
        simp only [show (0 : Int) < d by omega, decide_true, rs, l_cell (show notAgg Tryd.prog 2 = true by kernel_rfl) (ho.cell 1 rfl 0 rfl)]
        have hsq2 : 0 ≤ (r + d) * (r + d) := Int.mul_nonneg (by omega) (by omega)
        have hsq3 : (r + d) * (r + d) ≤ 8388608 * 8388608 := Int.mul_le_mul (by omega) (by omega) (by omega) (by omega)
        refine join fun J hJ => ?_
        rw [wrap64_id (n := r + d) (by omega) (by omega), wrap64_id (n := (r + d) * (r + d)) (by omega) (by omega)]
        have hnext : ∀ (r' : Int) (w' : World), 0 ≤ r' → r' + d ≤ 8388608 → r' * r' ≤ sq → sq < (r' + d) * (r' + d) → Own w w' [.cells b2 [.int .i64 0] 23, .cells b1 [.int .i64 r'] 2] → J [] w' := by
          intro r' w' a1 a2 a3 a4 a5
          refine hJ _ _ fun _ => ?_
          simp only [S_fix_Root_1, b_quo (show (2 : Int) ≠ 0 by omega)]
          have eq : IntKind.i64.wrap (d.tdiv 2) = d / 2 := by rw [Int.tdiv_eq_ediv_of_nonneg (by omega)]; exact wrap64_id (by omega) (by omega)
          rw [eq]
          refine AtX.mk rfl (nextX ⟨m, r', by omega, by rw [hd], a1, by rw [hd]; exact a2, a3, by rw [hd]; exact a4, a5⟩ (by simp [n0, intOf]; omega))
        by_cases hle : (r + d) * (r + d) ≤ sq
        · simp only [hle, decide_true, rs, l_cell (show notAgg Tryd.prog 2 = true by kernel_rfl) (ho.cell 1 rfl 0 rfl)]
          refine o_store 1 ho rfl (by kernel_rfl) rfl (by simp) fun w4 h4 => ?_
          exact AtX.mk rfl (hnext (r + d) w4 (by omega) (by omega) hle (by rw [show r + d + d = r + 2 * d by omega]; exact hr4) h4)
        · simp only [hle, decide_false, rs]
          exact AtX.mk rfl (hnext r w' hr (by omega) hr3 (by omega) ho)
  · exact door_bad h3.tail K (hbad (by simpa using ho))
end Go.Proofs.YtfnpfbgnhncgpaaDoor
