/- Contracts: numbers as text. -/
import Derived.Test.YtfnpfbgnhncgpaaDoorPlain02R
import Derived.Test.YtfnpfbgnhncgpaaDoorFixP
import Derived.Test.YtfnpfbgnhncgpaaDoorEngS
import Derived.Test.YtfnpfbgnhncgpaaDoorShelf
namespace Go.Proofs.YtfnpfbgnhncgpaaDoor
set_option linter.unusedVariables false
set_option linter.unusedSimpArgs false
set_option linter.defProp false
open Eng Go.RowKit
set_option linter.unusedVariables false
set_option linter.unusedSimpArgs false

def slen1 (vs : List Value) : Nat := match vs.getD 1 undef with | .string s => s.size | _ => 0
theorem slen1_mk {a : Value} {l : List UInt8} {t : List Value} : slen1 (a :: .string ⟨l.toArray⟩ :: t) = l.length := by simp [slen1, str_size]

theorem row_ret (n least : Nat) (w : World) (hn : n < 4611686018427387904) (hl : least ≤ 4) : Ret Tryd.prog 76 #[.int .i64 n, .int .i64 least] w (fun v w' => v = .string ⟨(Fx.row n least).toArray⟩ ∧ Below w.heap.size w w') := by
  refine ret_of fun K hK => S_fix_row_ok ?_
  unfold S_fix_row
  refine loop (fun vs w' => ∃ (f n' : Nat) (s : List UInt8), vs = [.int .i64 n', .string ⟨s.toArray⟩] ∧ Fx.rowF f n' least s = Fx.row n least ∧ n' < 10 ^ f ∧ n' < 4611686018427387904 ∧ least ≤ s.length + f ∧ s.length + f = 64 ∧ Own w w' [])
    (fun vs _ => 64 - slen1 vs) ⟨64, n, [], rfl, rfl, by omega, hn, by simp; omega, by simp, Own.start w⟩ ?_
  rintro vs w' ⟨f, n', s, rfl, hr, hn', hn2, hl', hs, ho⟩ _
  simp only [S_fix_row_0, gd, rs]
  have step : 0 < n' ∨ s.length < least → DoX Tryd.prog (mBin .rem 2 (.int .i64 n') (.int .i64 10)) w' (pk K) fun t15 ww =>
      DoX Tryd.prog (mBin .add 2 (.int .i64 48) t15) ww (pk K) fun t16 ww =>
      DoX Tryd.prog (mConv 2 5 t16) ww (pk K) fun t17 ww =>
      DoX Tryd.prog (mBuildS 64 1 #[(0, t17)]) ww (pk K) fun t18 ww =>
      DoX Tryd.prog (mConv 64 9 t18) ww (pk K) fun t19 ww =>
      DoX Tryd.prog (mBin .add 9 t19 (.string ⟨s.toArray⟩)) ww (pk K) fun t21 ww =>
      DoX Tryd.prog (mBin .quo 2 (.int .i64 n') (.int .i64 10)) ww (pk K) fun t23 ww =>
      (NextX (fun vs w' => ∃ (f n' : Nat) (s : List UInt8), vs = [.int .i64 n', .string ⟨s.toArray⟩] ∧ Fx.rowF f n' least s = Fx.row n least ∧ n' < 10 ^ f ∧ n' < 4611686018427387904 ∧ least ≤ s.length + f ∧ s.length + f = 64 ∧ Own w w' [])
    (fun vs _ => 64 - slen1 vs) [.int .i64 n', .string ⟨s.toArray⟩] w') [t23, t21] ww := by
    intro hstep
    cases f with
    | zero => simp only [Nat.pow_zero] at hn'; omega
    | succ f =>
      rw [Fx.rowF, if_pos hstep] at hr
      have e1 : (n' : Int).tmod 10 = ((n' % 10 : Nat) : Int) := by rw [Int.tmod_eq_emod_of_nonneg (by omega)]; omega
      have e2 : (n' : Int).tdiv 10 = ((n' / 10 : Nat) : Int) := by rw [Int.tdiv_eq_ediv_of_nonneg (by omega)]; omega
      have e3 : ((48 : Int) + ((n' % 10 : Nat) : Int)) = (((Fx.dg (n' % 10)).toNat : Nat) : Int) := by rw [Fx.dg_toNat (by omega)]; omega
      have e4 := Fx.dg_toNat (k := n' % 10) (by omega)
      simp only [b_rem (show (10 : Int) ≠ 0 by omega), b_quo (show (10 : Int) ≠ 0 by omega), rs, e1, e2, e3]
      rw [wrap64_id (by omega) (by omega), c_int (show (Tryd.prog.underlying 2).isSome = true by kernel_rfl) Tryd.underlying5, wrap8_id (by omega) (by omega)]
      refine o_new (fun b => .slice (some ⟨b, 0, none⟩) 1 1) [.int .u8 (Fx.dg (n' % 10)).toNat] 5 (fun _ => by kernel_rfl) ho fun b w4 h4 => ?_
      rw [c_bytes (l := [Fx.dg (n' % 10)]) Tryd.underlying64 Tryd.underlying5 Tryd.underlying9 (h4.sl 0 rfl 1 1 1 rfl), s_add (by simp; omega), wrap64_id (by omega) (by omega)]
      refine nextX ⟨f, n' / 10, Fx.dg (n' % 10) :: s, rfl, hr, by rw [Nat.pow_succ] at hn'; omega, by omega, by simp; omega, by simp; omega, h4.tail⟩ (by rw [slen1_mk, slen1_mk]; simp; omega)
  by_cases h0 : (0 : Int) < (n' : Int)
  · simp only [rs, h0, decide_true]
    exact step (.inl (by omega))
  · simp only [rs, h0, decide_false, s_len Tryd.underlying9]
    by_cases h1 : (s.length : Int) < (least : Int)
    · simp only [rs, h1, decide_true]
      exact step (.inr (by omega))
    · simp only [rs, h1, decide_false]
      refine hK _ _ ⟨?_, ho.done⟩
      cases f with
      | zero => rw [← hr]; rfl
      | succ f => rw [Fx.rowF, if_neg (by omega)] at hr; rw [hr]
theorem digits_ret (n least : Nat) (w : World) (hn : n < 4611686018427387904) (hl : least ≤ 4) : Ret Tryd.prog 77 #[.int .i64 n, .int .i64 least] w (fun v w' => v = .string ⟨(Fx.row n least).toArray⟩ ∧ Below w.heap.size w w') := by
  refine ret_of fun K hK => S_foliantref02_digits_ok ?_
  unfold S_foliantref02_digits
  refine loop (fun vs w' => ∃ (f n' : Nat) (s : List UInt8), vs = [.int .i64 n', .string ⟨s.toArray⟩] ∧ Fx.rowF f n' least s = Fx.row n least ∧ n' < 10 ^ f ∧ n' < 4611686018427387904 ∧ least ≤ s.length + f ∧ s.length + f = 64 ∧ Own w w' [])
    (fun vs _ => 64 - slen1 vs) ⟨64, n, [], rfl, rfl, by omega, hn, by simp; omega, by simp, Own.start w⟩ ?_
  rintro vs w' ⟨f, n', s, rfl, hr, hn', hn2, hl', hs, ho⟩ _
  simp only [S_foliantref02_digits_0, gd, rs]
  have step : 0 < n' ∨ s.length < least → DoX Tryd.prog (mBin .rem 2 (.int .i64 n') (.int .i64 10)) w' (pk K) fun t15 ww =>
      DoX Tryd.prog (mBin .add 2 (.int .i64 48) t15) ww (pk K) fun t16 ww =>
      DoX Tryd.prog (mConv 2 5 t16) ww (pk K) fun t17 ww =>
      DoX Tryd.prog (mBuildS 64 1 #[(0, t17)]) ww (pk K) fun t18 ww =>
      DoX Tryd.prog (mConv 64 9 t18) ww (pk K) fun t19 ww =>
      DoX Tryd.prog (mBin .add 9 t19 (.string ⟨s.toArray⟩)) ww (pk K) fun t21 ww =>
      DoX Tryd.prog (mBin .quo 2 (.int .i64 n') (.int .i64 10)) ww (pk K) fun t23 ww =>
      (NextX (fun vs w' => ∃ (f n' : Nat) (s : List UInt8), vs = [.int .i64 n', .string ⟨s.toArray⟩] ∧ Fx.rowF f n' least s = Fx.row n least ∧ n' < 10 ^ f ∧ n' < 4611686018427387904 ∧ least ≤ s.length + f ∧ s.length + f = 64 ∧ Own w w' [])
    (fun vs _ => 64 - slen1 vs) [.int .i64 n', .string ⟨s.toArray⟩] w') [t23, t21] ww := by
    intro hstep
    cases f with
    | zero => simp only [Nat.pow_zero] at hn'; omega
    | succ f =>
      rw [Fx.rowF, if_pos hstep] at hr
      have e1 : (n' : Int).tmod 10 = ((n' % 10 : Nat) : Int) := by rw [Int.tmod_eq_emod_of_nonneg (by omega)]; omega
      have e2 : (n' : Int).tdiv 10 = ((n' / 10 : Nat) : Int) := by rw [Int.tdiv_eq_ediv_of_nonneg (by omega)]; omega
      have e3 : ((48 : Int) + ((n' % 10 : Nat) : Int)) = (((Fx.dg (n' % 10)).toNat : Nat) : Int) := by rw [Fx.dg_toNat (by omega)]; omega
      have e4 := Fx.dg_toNat (k := n' % 10) (by omega)
      simp only [b_rem (show (10 : Int) ≠ 0 by omega), b_quo (show (10 : Int) ≠ 0 by omega), rs, e1, e2, e3]
      rw [wrap64_id (by omega) (by omega), c_int (show (Tryd.prog.underlying 2).isSome = true by kernel_rfl) Tryd.underlying5, wrap8_id (by omega) (by omega)]
      refine o_new (fun b => .slice (some ⟨b, 0, none⟩) 1 1) [.int .u8 (Fx.dg (n' % 10)).toNat] 5 (fun _ => by kernel_rfl) ho fun b w4 h4 => ?_
      rw [c_bytes (l := [Fx.dg (n' % 10)]) Tryd.underlying64 Tryd.underlying5 Tryd.underlying9 (h4.sl 0 rfl 1 1 1 rfl), s_add (by simp; omega), wrap64_id (by omega) (by omega)]
      refine nextX ⟨f, n' / 10, Fx.dg (n' % 10) :: s, rfl, hr, by rw [Nat.pow_succ] at hn'; omega, by omega, by simp; omega, by simp; omega, h4.tail⟩ (by rw [slen1_mk, slen1_mk]; simp; omega)
  by_cases h0 : (0 : Int) < (n' : Int)
  · simp only [rs, h0, decide_true]
    exact step (.inl (by omega))
  · simp only [rs, h0, decide_false, s_len Tryd.underlying9]
    by_cases h1 : (s.length : Int) < (least : Int)
    · simp only [rs, h1, decide_true]
      exact step (.inr (by omega))
    · simp only [rs, h1, decide_false]
      refine hK _ _ ⟨?_, ho.done⟩
      cases f with
      | zero => rw [← hr]; rfl
      | succ f => rw [Fx.rowF, if_neg (by omega)] at hr; rw [hr]
end Go.Proofs.YtfnpfbgnhncgpaaDoor
