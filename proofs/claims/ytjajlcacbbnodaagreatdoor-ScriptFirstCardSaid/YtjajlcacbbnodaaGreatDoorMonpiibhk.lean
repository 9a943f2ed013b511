/- Texts that go together: ScL ScM ScN ScO ScP ScQ ScR ScS EngU ScT ScU ScV SLaw55 ScW ScX Plain55D Plain55E ScY LawKit3 ObA ObB KdA ScOp ScRow. -/
import Derived.Test.YtjajlcacbbnodaaGreatDoorRows
import Derived.Test.YtjajlcacbbnodaaGreatDoorMllbmeeao
import Derived.Test.YtjajlcacbbnodaaGreatDoorMpipplaom
import Derived.Test.YtjajlcacbbnodaaGreatDoorMfdhndkha
/- Contracts: foliantref55 (Int, line, Line). -/
namespace Go.Proofs.YtjajlcacbbnodaaGreatDoor
set_option linter.unusedVariables false
set_option linter.unusedSimpArgs false
set_option linter.defProp false
open Eng Go.RowKit

theorem rintN_ret : ∀ (k u : Nat) (w : World), u ≤ k → u ≤ 9223372036854775807 → Ret Tryz.prog 96 #[.int .i64 (u : Int)] w (fun v w' => v = .string ⟨(Lib.decDigits u).toArray⟩ ∧ Below w.heap.size w w') := by
  intro k
  induction k with
  | zero =>
    intro u w hu hb
    obtain rfl : u = 0 := by omega
    refine ret_of fun K hK => S_foliantref55_Int_ok ?_
    unfold S_foliantref55_Int
    simp only [rs, show ¬ (((0 : Nat) : Int) < 0) by decide, decide_false, b_rem (show (10 : Int) ≠ 0 by decide)]
    rw [c_int (show (Tryz.prog.underlying 3).isSome = true by kernel_rfl) Tryz.underlying5]
    refine o_new (fun b => .slice (some ⟨b, 0, none⟩) 1 1) (bytesV [48]) 5 (fun _ => by kernel_rfl) (Own.start w) fun nb w1 ho1 => ?_
    have ho : Own w w1 [BRow _ [48]] := OwnS.toRow ho1 1 1 1 rfl (by omega) (by omega)
    rw [o_strB 0 ho rfl]
    simp only [rs, show (((0 : Nat) : Int) < 10) by decide, decide_true]
    exact hK _ _ ⟨by rw [Lib.decDigits_one (by omega)]; rfl, ho.done⟩
  | succ k ih =>
    intro u w hu hb
    refine ret_of fun K hK => S_foliantref55_Int_ok ?_
    unfold S_foliantref55_Int
    have h0 : ¬ ((u : Int) < 0) := by omega
    have hr : ((u : Int).tmod 10) = ((u % 10 : Nat) : Int) := by rw [Int.tmod_eq_emod_of_nonneg (by omega)]; omega
    have hq : ((u : Int).tdiv 10) = ((u / 10 : Nat) : Int) := by rw [Int.tdiv_eq_ediv_of_nonneg (by omega)]; omega
    simp only [rs, h0, decide_false, b_rem (show (10 : Int) ≠ 0 by decide), hr]
    rw [wrap64_id (by omega) (by omega), c_int (show (Tryz.prog.underlying 3).isSome = true by kernel_rfl) Tryz.underlying5, wrap8_id (by omega) (by omega)]
    rw [show ((48 : Int) + ((u % 10 : Nat) : Int)) = ((48 + u % 10 : Nat) : Int) by omega, ← u8_of (48 + u % 10) (by omega)]
    refine o_new (fun b => .slice (some ⟨b, 0, none⟩) 1 1) (bytesV [UInt8.ofNat (48 + u % 10)]) 5 (fun _ => by kernel_rfl) (Own.start w) fun nb w1 ho1 => ?_
    have ho : Own w w1 [BRow _ [UInt8.ofNat (48 + u % 10)]] := OwnS.toRow ho1 1 1 1 rfl (by omega) (by omega)
    rw [o_strB 0 ho rfl]
    by_cases h10 : (u : Int) < 10
    · simp only [rs, h10, decide_true]
      exact hK _ _ ⟨by rw [Lib.decDigits_one (by omega), show u % 10 = u by omega], ho.done⟩
    · simp only [rs, h10, decide_false, b_quo (show (10 : Int) ≠ 0 by decide), hq]
      rw [wrap64_id (by omega) (by omega)]
      refine c_told (ih (u / 10) w1 (by omega) (by omega)) rfl ho fun w2 ho => ?_
      have hl := Lib.decDigits_length (u / 10)
      have hn : (Lib.decDigits (u / 10)).length ≤ 21 := by
        have := itoa_len (n := ((u / 10 : Nat) : Int)) (by omega) (by omega)
        unfold Lib.itoa at this
        rw [if_neg (by omega), Int.toNat_natCast] at this
        exact this
      rw [s_add (by simp only [List.length_cons, List.length_nil]; omega)]
      have e : Lib.decDigits u = Lib.decDigits (u / 10) ++ [UInt8.ofNat (48 + u % 10)] := by
        conv => lhs; rw [Lib.decDigits, dif_neg (show ¬ u < 10 by omega)]
      exact hK _ _ ⟨by rw [e], ho.done⟩
theorem rint55_ret (n : Int) (w : World) (h0 : -9223372036854775807 ≤ n) (h1 : n ≤ 9223372036854775807) : Ret Tryz.prog 96 #[.int .i64 n] w (fun v w' => v = .string ⟨(Lib.itoa n).toArray⟩ ∧ Below w.heap.size w w') := by
  by_cases hn : n < 0
  · refine ret_of fun K hK => S_foliantref55_Int_ok ?_
    unfold S_foliantref55_Int
    simp only [rs, hn, decide_true]
    rw [wrap64_id (by omega) (by omega), show -n = ((n.natAbs : Nat) : Int) by omega]
    refine c_told (rintN_ret _ n.natAbs w (Nat.le_refl _) (by omega)) rfl (Own.start w) fun w2 ho => ?_
    have hl : (Lib.decDigits n.natAbs).length ≤ 21 := by
      have := itoa_len (n := ((n.natAbs : Nat) : Int)) (by omega) (by omega)
      unfold Lib.itoa at this
      rw [if_neg (by omega), Int.toNat_natCast] at this
      exact this
    refine do_eq (run_s_add (a := [45]) (b := Lib.decDigits n.natAbs) (by simp only [List.length_cons, List.length_nil]; omega)) |>.mpr ?_
    exact hK _ _ ⟨by rw [Lib.itoa, if_pos hn]; rfl, ho.done⟩
  · have := rintN_ret _ n.toNat w (Nat.le_refl _) (by omega)
    rw [Int.toNat_of_nonneg (by omega)] at this
    rw [Lib.itoa, if_neg hn]
    exact this
end Go.Proofs.YtjajlcacbbnodaaGreatDoor
/- Contracts: foliantref55 (number). -/
namespace Go.Proofs.YtjajlcacbbnodaaGreatDoor
set_option linter.unusedVariables false
set_option linter.unusedSimpArgs false
set_option linter.defProp false
open Eng Go.RowKit

def numV (x : Nat × Nat) (a : Nat) : Value := .tuple #[.int .i64 (x.1 : Int), .int .i64 ((a + x.2 : Nat) : Int)]
theorem number_ret (l : List UInt8) (a : Nat) (w : World) (ha : a ≤ l.length) (hl : l.length ≤ 1099511627776) : Ret Tryz.prog 88 #[.string ⟨l.toArray⟩, .int .i64 (a : Int)] w (fun v w' => v = numV (Sc.num 0 (l.drop a)) a ∧ w = w') := by
  refine ret_of fun K hK => S_foliantref55_number_ok ?_
  unfold S_foliantref55_number
  refine loop (fun vs w' => ∃ (j n : Nat), vs = [.int .i64 ((a + j : Nat) : Int), .int .i64 (n : Int)] ∧ a + j ≤ l.length ∧ n ≤ 30000000000 ∧ Sc.num 0 (l.drop a) = ((Sc.num n (l.drop (a + j))).1, j + (Sc.num n (l.drop (a + j))).2) ∧ w = w')
    (fun vs _ => l.length - n0 vs) ⟨0, 0, rfl, by omega, by omega, by simp, rfl⟩ ?_
  rintro vs w2 ⟨j, n, rfl, hj, hn, he, rfl⟩ _
  simp only [S_foliantref55_number_0, gd, s_len Tryz.underlying9, rs]
  rw [he] at hK
  by_cases hlt : ((a + j : Nat) : Int) < (l.length : Int)
  · have hi : a + j < l.length := by omega
    have hd : l.drop (a + j) = l[a + j] :: l.drop (a + j + 1) := List.drop_eq_getElem_cons hi
    have hx : ∀ {PK K}, DoX Tryz.prog (mIx 9 (.string ⟨l.toArray⟩) (.int .i64 ((a + j : Nat) : Int))) w PK K = K (.int .u8 (l[a + j].toNat : Int)) w := s_ix (c := l[a + j]) Tryz.underlying9 (Int.natCast_nonneg _) (by rw [Int.toNat_natCast]; exact List.getElem?_eq_getElem hi)
    rw [hd, Sc.num] at hK he
    have h256 := l[a + j].toNat_lt
    have out : (¬ (Lx.dig l[a + j] = true ∧ n ≤ 2147483647)) → K (.returned (.tuple #[.int .i64 (n : Int), .int .i64 ((a + j : Nat) : Int)])) w := by
      intro hnot
      rw [if_neg hnot] at hK
      exact hK _ _ ⟨by simp [numV], rfl⟩
    by_cases g1 : (48 : Int) ≤ (l[a + j].toNat : Int)
    · by_cases g2 : (l[a + j].toNat : Int) ≤ 57
      · by_cases g3 : (n : Int) ≤ 2147483647
        · simp only [hlt, hx, g1, g2, g3, decide_true, rs]
          have hdig : Lx.dig l[a + j] = true := by simp [Lx.dig]; omega
          rw [if_pos ⟨hdig, by omega⟩] at he
          rw [wrap64_id (n := 10 * (n : Int)) (by omega) (by omega), wrap8_id (by omega) (by omega), c_int (show (Tryz.prog.underlying 5).isSome = true by kernel_rfl) Tryz.underlying3, wrap64_id (n := (l[a + j].toNat : Int) - 48) (by omega) (by omega)]
          simp only [rs]
          rw [wrap64_id (by omega) (by omega), wrap64_id (by omega) (by omega)]
          refine nextX ⟨j + 1, 10 * n + (l[a + j].toNat - 48), ?_, by omega, by omega, ?_, rfl⟩ (by simp [n0, intOf]; omega)
          · have e1 : ((a + j : Nat) : Int) + 1 = ((a + (j + 1) : Nat) : Int) := by omega
            have e2 : 10 * (n : Int) + ((l[a + j].toNat : Int) - 48) = ((10 * n + (l[a + j].toNat - 48) : Nat) : Int) := by omega
            rw [e1, e2]
          · rw [he]
            simp only [Prod.mk.injEq]
            refine ⟨rfl, ?_⟩
            rw [show a + (j + 1) = a + j + 1 by omega]; omega
        · simp only [hlt, hx, g1, g2, g3, decide_true, decide_false, rs]
          exact out (by omega)
      · simp only [hlt, hx, g1, g2, decide_true, decide_false, rs, g_un]
        exact out (by simp [Lx.dig]; omega)
    · simp only [hlt, hx, g1, decide_true, decide_false, rs, g_un]
      exact out (by simp [Lx.dig]; omega)
  · simp only [hlt, decide_false, rs, g_un]
    have h0 : l.drop (a + j) = [] := List.drop_of_length_le (by omega)
    rw [h0] at hK
    exact hK _ _ ⟨by simp [numV, Sc.num], rfl⟩
end Go.Proofs.YtjajlcacbbnodaaGreatDoor
/- Contracts: foliantref55 (quoted). -/
namespace Go.Proofs.YtjajlcacbbnodaaGreatDoor
set_option linter.unusedVariables false
set_option linter.unusedSimpArgs false
set_option linter.defProp false
open Eng Go.RowKit

theorem oct_wrap (p q r : UInt8) : IntKind.wrap .u8 (IntKind.wrap .u8 (IntKind.wrap .u8 (IntKind.wrap .u8 ((p.toNat : Int) - 48) * 64) + IntKind.wrap .u8 (IntKind.wrap .u8 ((q.toNat : Int) - 48) * 8)) + IntKind.wrap .u8 ((r.toNat : Int) - 48)) = (((p - 48) * 64 + (q - 48) * 8 + (r - 48)).toNat : Int) := by
  have h1 := p.toNat_lt
  have h2 := q.toNat_lt
  have h3 := r.toNat_lt
  have e48 : (48 : UInt8).toNat = 48 := rfl
  have e64 : (64 : UInt8).toNat = 64 := rfl
  have e8 : (8 : UInt8).toNat = 8 := rfl
  simp only [wrap8_mod, UInt8.toNat_add, UInt8.toNat_mul, UInt8.toNat_sub, e48, e64, e8]
  omega
def quotV (x : List UInt8 × Nat) (a : Nat) : Value := .tuple #[.string ⟨x.1.toArray⟩, .int .i64 ((a + 1 + x.2 + 1 : Nat) : Int)]
theorem quoted_ret (l : List UInt8) (a : Nat) (w : World) (ha : a < l.length) (hl : l.length ≤ 1099511627776) : Ret Tryz.prog 89 #[.string ⟨l.toArray⟩, .int .i64 (a : Int)] w (fun v w' => v = quotV (Sc.quo l.length (l.drop (a + 1))) a ∧ Below w.heap.size w w') := by
  refine ret_of fun K hK => S_foliantref55_quoted_ok ?_
  unfold S_foliantref55_quoted
  rw [b_add, wrap64_id (by omega) (by omega), show (a : Int) + 1 = ((a + 1 + 0 : Nat) : Int) by omega]
  refine loop (fun vs w' => ∃ (j f : Nat) (v : Value) (out : List UInt8), vs = [.int .i64 ((a + 1 + j : Nat) : Int), v] ∧ a + 1 + j ≤ l.length ∧ l.length - (a + 1 + j) < f ∧ out.length ≤ j ∧
      Sc.quo l.length (l.drop (a + 1)) = (out ++ (Sc.quo f (l.drop (a + 1 + j))).1, j + (Sc.quo f (l.drop (a + 1 + j))).2) ∧ Own w w' [BRow v out])
    (fun vs _ => l.length - n0 vs) ⟨0, l.length, .slice none 0 0, [], rfl, by omega, by omega, by simp, by simp, (Own.start w).nilRow _ 1⟩ ?_
  rintro vs w2 ⟨j, f, v, out, rfl, hj, hf, hol, he, ho⟩ _
  simp only [S_foliantref55_quoted_0, gd, s_len Tryz.underlying9, rs]
  obtain ⟨f, rfl⟩ : ∃ g, f = g + 1 := ⟨f - 1, by omega⟩
  have fin : (Sc.quo (f + 1) (l.drop (a + 1 + j))) = ([], 0) → DoX Tryz.prog (mConv 91 9 v) w2 (pk K) fun t91 w =>
      DoX Tryz.prog (mBin .add 3 (.int .i64 ((a + 1 + j : Nat) : Int)) (.int .i64 1)) w (pk K) fun t93 w => K (.returned (.tuple #[t91, t93])) w := by
    intro h0
    rw [o_strB 0 ho rfl, b_add, wrap64_id (by omega) (by omega)]
    rw [he, h0] at hK
    refine hK _ _ ⟨?_, ho.done⟩
    simp only [quotV, List.append_nil]
    rw [show ((a + 1 + j : Nat) : Int) + 1 = ((a + 1 + (j + 0) + 1 : Nat) : Int) by omega]
  by_cases hlt : ((a + 1 + j : Nat) : Int) < (l.length : Int)
  case neg =>
    simp only [hlt, decide_false, rs, g_un]
    have := fin (by rw [List.drop_of_length_le (by omega), Sc.quo])
    simp only [rs] at this
    exact this
  have hi : a + 1 + j < l.length := by omega
  have hd : l.drop (a + 1 + j) = l[a + 1 + j] :: l.drop (a + 1 + j + 1) := List.drop_eq_getElem_cons hi
  have ix : ∀ (k : Nat) (hk : a + 1 + j + k < l.length), ∀ {w : World} {PK K}, DoX Tryz.prog (mIx 9 (.string ⟨l.toArray⟩) (.int .i64 ((a + 1 + j + k : Nat) : Int))) w PK K = K (.int .u8 (l[a + 1 + j + k].toNat : Int)) w :=
    fun k hk {w PK K} => s_ix (c := l[a + 1 + j + k]) Tryz.underlying9 (Int.natCast_nonneg _) (by rw [Int.toNat_natCast]; exact List.getElem?_eq_getElem hk)
  have hx : ∀ {w : World} {PK K}, DoX Tryz.prog (mIx 9 (.string ⟨l.toArray⟩) (.int .i64 ((a + 1 + j : Nat) : Int))) w PK K = K (.int .u8 (l[a + 1 + j].toNat : Int)) w := ix 0 hi
  have tl : (l.drop (a + 1 + j + 1)).length = l.length - (a + 1 + j + 1) := List.length_drop
  have tg : ∀ (k : Nat) (hk : a + 1 + j + (k + 1) < l.length), (l.drop (a + 1 + j + 1)).getD k 0 = l[a + 1 + j + (k + 1)] := by
    intro k hk
    rw [List.getD_eq_getElem?_getD, List.getElem?_drop, show a + 1 + j + 1 + k = a + 1 + j + (k + 1) by omega, List.getElem?_eq_getElem hk]; rfl
  rw [hd] at fin he
  have next : ∀ (m d : Nat) (x : List UInt8) (v' : Value) (W : World) (N : Prop), Sc.quo (f + 1) (l[a + 1 + j] :: l.drop (a + 1 + j + 1)) = (x ++ (Sc.quo f (l.drop (a + 1 + j + 1 + d))).1, (Sc.quo f (l.drop (a + 1 + j + 1 + d))).2 + (1 + d)) → a + 1 + j + 1 + d ≤ l.length → x.length ≤ 1 + d → Own w W [BRow v' (out ++ x)] → m = a + 1 + j + 1 + d →
      ((∃ (j' f' : Nat) (v'' : Value) (out' : List UInt8), ([.int .i64 ((m : Nat) : Int), v'] : List Value) = [.int .i64 ((a + 1 + j' : Nat) : Int), v''] ∧ a + 1 + j' ≤ l.length ∧ l.length - (a + 1 + j') < f' ∧ out'.length ≤ j' ∧
      Sc.quo l.length (l.drop (a + 1)) = (out' ++ (Sc.quo f' (l.drop (a + 1 + j'))).1, j' + (Sc.quo f' (l.drop (a + 1 + j'))).2) ∧ Own w W [BRow v'' out']) → N) → N := by
    rintro m d x v' W N hq hle hxl hW rfl hN
    refine hN ⟨j + 1 + d, f, v', out ++ x, ?_, by omega, by omega, by rw [List.length_append]; omega, ?_, hW⟩
    · rw [show a + 1 + j + 1 + d = a + 1 + (j + 1 + d) by omega]
    · rw [he, hq, show a + 1 + (j + 1 + d) = a + 1 + j + 1 + d by omega]
      simp; omega
  by_cases c41 : l[a + 1 + j] = 41
  · have e1 : (l[a + 1 + j].toNat : Int) = 41 := by rw [c41]; rfl
    simp only [hlt, hx, e1, ne_eq, not_true, decide_true, decide_false, rs]
    have := fin (by rw [c41, Sc.quo, if_pos rfl])
    simp only [rs] at this
    exact this
  have e1 : ¬ (l[a + 1 + j].toNat : Int) = 41 := fun h => c41 (UInt8.toNat_inj.1 (by have : (41 : UInt8).toNat = 41 := rfl; omega))
  by_cases c92 : l[a + 1 + j] = 92
  case neg =>
    have e2 : ¬ (l[a + 1 + j].toNat : Int) = 92 := fun h => c92 (UInt8.toNat_inj.1 (by have : (92 : UInt8).toNat = 92 := rfl; omega))
    simp only [hlt, hx, e1, e2, ne_eq, not_false_eq_true, decide_true, rs]
    refine o_appB (m := [l[a + 1 + j]]) (fun _ => by kernel_rfl) ho (by simp only [List.length_cons, List.length_nil]; omega) fun v' w5 h5 => ?_
    rw [wrap64_id (by omega) (by omega), show ((a + 1 + j : Nat) : Int) + 1 = ((a + 1 + j + 1 : Nat) : Int) by omega]
    exact next _ 0 [l[a + 1 + j]] v' w5 _ (by rw [Sc.quo, if_neg c41, if_pos c92]; rfl) (by omega) (by simp) h5 rfl fun h => nextX h (by simp [n0, intOf]; omega)
  have e2 : (l[a + 1 + j].toNat : Int) = 92 := by rw [c92]; rfl
  simp only [hlt, hx, e2, show ((92 : Int) = 41) = False by decide, ne_eq, not_true, not_false_eq_true, decide_true, decide_false, rs]
  have w3 : IntKind.wrap .i64 (((a + 1 + j : Nat) : Int) + 3) = ((a + 1 + j + 3 : Nat) : Int) := by rw [wrap64_id (by omega) (by omega)]; omega
  have w1 : IntKind.wrap .i64 (((a + 1 + j : Nat) : Int) + 1) = ((a + 1 + j + 1 : Nat) : Int) := by rw [wrap64_id (by omega) (by omega)]; omega
  have notO : ¬ (∃ h : a + 1 + j + 3 < l.length, 48 ≤ l[a + 1 + j + 1].toNat ∧ l[a + 1 + j + 1].toNat ≤ 51) → ¬ (3 ≤ (l.drop (a + 1 + j + 1)).length ∧ 48 ≤ ((l.drop (a + 1 + j + 1)).getD 0 0).toNat ∧ ((l.drop (a + 1 + j + 1)).getD 0 0).toNat ≤ 51) := by
    intro h ⟨q1, q2, q3⟩
    rw [tl] at q1
    have q0 : a + 1 + j + (0 + 1) < l.length := by omega
    rw [tg 0 q0] at q2 q3
    exact h ⟨by omega, q2, q3⟩
  simp only [w3, w1]
  by_cases A : ((a + 1 + j + 3 : Nat) : Int) < (l.length : Int)
  case neg =>
    simp only [A, decide_false, rs, g_un]
    by_cases D : ((a + 1 + j + 1 : Nat) : Int) < (l.length : Int)
    · have t0 := tg 0 (by omega)
      simp only [D, ix 1 (by omega), decide_true, rs]
      refine o_appB (m := [l[a + 1 + j + 1]]) (fun _ => by kernel_rfl) ho (by simp only [List.length_cons, List.length_nil]; omega) fun v' w5 h5 => ?_
      rw [wrap64_id (by omega) (by omega), show ((a + 1 + j : Nat) : Int) + 2 = ((a + 1 + j + 1 + 1 : Nat) : Int) by omega]
      exact next _ 1 [l[a + 1 + j + 1]] v' w5 _ (by rw [Sc.quo, if_neg c41, if_neg (by simp [c92]), if_neg (notO fun ⟨h, _⟩ => A (by omega)), if_pos (by rw [tl]; omega), t0, List.drop_drop]; rfl) (by omega) (by simp) h5 rfl fun h => nextX h (by simp [n0, intOf]; omega)
    · simp only [D, decide_false, rs]
      exact next _ 0 [] v w2 _ (by rw [Sc.quo, if_neg c41, if_neg (by simp [c92]), if_neg (notO fun ⟨h, _⟩ => A (by omega)), if_neg (by rw [tl]; omega)]; rfl) (by omega) (by simp) (by rw [List.append_nil]; exact ho) rfl fun h => nextX h (by simp [n0, intOf]; omega)
  have t0 : (l.drop (a + 1 + j + 1)).getD 0 0 = l[a + 1 + j + 1] := tg 0 (by omega)
  have t1 : (l.drop (a + 1 + j + 1)).getD 1 0 = l[a + 1 + j + 2] := tg 1 (by omega)
  have t2 : (l.drop (a + 1 + j + 1)).getD 2 0 = l[a + 1 + j + 3] := tg 2 (by omega)
  by_cases B : (48 : Int) ≤ (l[a + 1 + j + 1].toNat : Int)
  case neg =>
    simp only [A, B, w1, ix 1 (by omega), decide_true, decide_false, rs, g_un]
    by_cases D : ((a + 1 + j + 1 : Nat) : Int) < (l.length : Int)
    · have t0 := tg 0 (by omega)
      simp only [D, ix 1 (by omega), decide_true, rs]
      refine o_appB (m := [l[a + 1 + j + 1]]) (fun _ => by kernel_rfl) ho (by simp only [List.length_cons, List.length_nil]; omega) fun v' w5 h5 => ?_
      rw [wrap64_id (by omega) (by omega), show ((a + 1 + j : Nat) : Int) + 2 = ((a + 1 + j + 1 + 1 : Nat) : Int) by omega]
      exact next _ 1 [l[a + 1 + j + 1]] v' w5 _ (by rw [Sc.quo, if_neg c41, if_neg (by simp [c92]), if_neg (notO fun ⟨h, h1, _⟩ => B (by omega)), if_pos (by rw [tl]; omega), t0, List.drop_drop]; rfl) (by omega) (by simp) h5 rfl fun h => nextX h (by simp [n0, intOf]; omega)
    · simp only [D, decide_false, rs]
      exact next _ 0 [] v w2 _ (by rw [Sc.quo, if_neg c41, if_neg (by simp [c92]), if_neg (notO fun ⟨h, h1, _⟩ => B (by omega)), if_neg (by rw [tl]; omega)]; rfl) (by omega) (by simp) (by rw [List.append_nil]; exact ho) rfl fun h => nextX h (by simp [n0, intOf]; omega)
  by_cases C : (l[a + 1 + j + 1].toNat : Int) ≤ 51
  case neg =>
    simp only [A, B, C, w1, ix 1 (by omega), decide_true, decide_false, rs]
    by_cases D : ((a + 1 + j + 1 : Nat) : Int) < (l.length : Int)
    · have t0 := tg 0 (by omega)
      simp only [D, ix 1 (by omega), decide_true, rs]
      refine o_appB (m := [l[a + 1 + j + 1]]) (fun _ => by kernel_rfl) ho (by simp only [List.length_cons, List.length_nil]; omega) fun v' w5 h5 => ?_
      rw [wrap64_id (by omega) (by omega), show ((a + 1 + j : Nat) : Int) + 2 = ((a + 1 + j + 1 + 1 : Nat) : Int) by omega]
      exact next _ 1 [l[a + 1 + j + 1]] v' w5 _ (by rw [Sc.quo, if_neg c41, if_neg (by simp [c92]), if_neg (notO fun ⟨h, _, h2⟩ => C (by omega)), if_pos (by rw [tl]; omega), t0, List.drop_drop]; rfl) (by omega) (by simp) h5 rfl fun h => nextX h (by simp [n0, intOf]; omega)
    · simp only [D, decide_false, rs]
      exact next _ 0 [] v w2 _ (by rw [Sc.quo, if_neg c41, if_neg (by simp [c92]), if_neg (notO fun ⟨h, _, h2⟩ => C (by omega)), if_neg (by rw [tl]; omega)]; rfl) (by omega) (by simp) (by rw [List.append_nil]; exact ho) rfl fun h => nextX h (by simp [n0, intOf]; omega)
  simp only [A, B, C, w1, ix 1 (by omega), decide_true, rs]
  have w2' : IntKind.wrap .i64 (((a + 1 + j : Nat) : Int) + 2) = ((a + 1 + j + 2 : Nat) : Int) := by rw [wrap64_id (by omega) (by omega)]; omega
  have gx : ∀ (k : Nat) (hk : a + 1 + j + k < l.length), l[(((a + 1 + j + k : Nat) : Int)).toNat]? = some l[a + 1 + j + k] := fun k hk => by rw [Int.toNat_natCast]; exact List.getElem?_eq_getElem hk
  refine quiet (q_add ?_)
  rw [w1]
  refine q_ix Tryz.underlying9 (Int.natCast_nonneg _) (gx 1 (by omega)) (q_do _ (fun _ => r_sub) (q_do _ (fun _ => r_mul) (q_add ?_)))
  rw [w2']
  refine q_ix Tryz.underlying9 (Int.natCast_nonneg _) (gx 2 (by omega)) (q_do _ (fun _ => r_sub) (q_do _ (fun _ => r_mul) (q_add (q_add ?_))))
  rw [w3]
  refine q_ix Tryz.underlying9 (Int.natCast_nonneg _) (gx 3 (by omega)) (q_do _ (fun _ => r_sub) (q_add ?_))
  rw [oct_wrap]
  intro w4 hb
  refine o_appB (m := [(l[a + 1 + j + 1] - 48) * 64 + (l[a + 1 + j + 2] - 48) * 8 + (l[a + 1 + j + 3] - 48)]) (fun _ => by kernel_rfl) (ho.grow hb) (by simp only [List.length_cons, List.length_nil]; omega) fun v' w5 h5 => ?_
  rw [wrap64_id (by omega) (by omega), show ((a + 1 + j : Nat) : Int) + 4 = ((a + 1 + j + 1 + 3 : Nat) : Int) by omega]
  exact next _ 3 _ v' w5 _ (by rw [Sc.quo, if_neg c41, if_neg (by simp [c92]), if_pos ⟨by rw [tl]; omega, by rw [t0]; omega, by rw [t0]; omega⟩, t0, t1, t2, List.drop_drop]; rfl) (by omega) (by simp) h5 rfl fun h => nextX h (by simp [n0, intOf]; omega)
end Go.Proofs.YtjajlcacbbnodaaGreatDoor
/- Steps are compared; contract: foliantref55 (Same). -/
namespace Go.Proofs.YtjajlcacbbnodaaGreatDoor
set_option linter.unusedVariables false
set_option linter.unusedSimpArgs false
set_option linter.defProp false
open Eng Go.RowKit

theorem eqSt : eqT Tryz.prog 43 [(0, false), (1, false), (2, false), (3, true), (4, true)] := ⟨by kernel_rfl, by kernel_rfl, by kernel_rfl, by kernel_rfl⟩
theorem st_beq (x y : Sc.Step) : ([(0, false), (1, false), (2, false), (3, true), (4, true)] : List (Nat × Bool)).all (fun p => cellEq (stC x).toArray[p.1]? (stC y).toArray[p.1]?) = decide (x = y) := by
  have e : ([(0, false), (1, false), (2, false), (3, true), (4, true)] : List (Nat × Bool)).all (fun p => cellEq (stC x).toArray[p.1]? (stC y).toArray[p.1]?) = ((x.k == y.k) && ((x.a == y.a) && ((x.b == y.b) && (((⟨x.s.toArray⟩ : ByteArray).toList == (⟨y.s.toArray⟩ : ByteArray).toList) && (((⟨x.t.toArray⟩ : ByteArray).toList == (⟨y.t.toArray⟩ : ByteArray).toList) && true))))) := rfl
  rw [e, str_beq, str_beq, Bool.eq_iff_iff]
  obtain ⟨a, b, c, d, f⟩ := x
  obtain ⟨a', b', c', d', f'⟩ := y
  simp
section
variable {w : World} {PK : List PanicEntry → World → Prop} {K : Value → World → Prop}
theorem r_stne {xo yo : Operand} {x y : Sc.Step} : (mEq .neq 43 xo yo (stV x) (stV y)).run Tryz.prog w = .ok (.value (.bool (!decide (x = y)))) w := by
  rw [← st_beq]; exact run_neq_agg eqSt rfl
theorem e_st {xo yo : Operand} {x y : Sc.Step} : DoX Tryz.prog (mEq .eql 43 xo yo (stV x) (stV y)) w PK K = K (.bool (decide (x = y))) w := by
  refine do_eq ?_
  rw [← st_beq]; exact run_eql_agg eqSt rfl
theorem n_st {xo yo : Operand} {x y : Sc.Step} : DoX Tryz.prog (mEq .neq 43 xo yo (stV x) (stV y)) w PK K = K (.bool (!decide (x = y))) w := do_eq r_stne
end
theorem ssame_ret (va vb : Value) (la lb : List Sc.Step) (w : World) (ha : Sl w va 5 la.length (la.flatMap stC)) (hb : Sl w vb 5 lb.length (lb.flatMap stC)) (hl : la.length ≤ 1099511627776) :
    Ret Tryz.prog 35 #[va, vb] w (fun r w' => r = .bool (decide (la = lb)) ∧ Below w.heap.size w w') := by
  refine ret_of fun K hK => S_foliantref55_Same_ok ?_
  unfold S_foliantref55_Same
  rw [sl_len Tryz.underlying44 ha, sl_len Tryz.underlying44 hb]
  simp only [rs]
  by_cases hlen : (la.length : Int) ≠ (lb.length : Int)
  · simp only [decide_eq_true hlen, i_t]
    have hne : la ≠ lb := fun e => hlen (by rw [e])
    exact hK _ _ ⟨by rw [decide_eq_false hne], (Own.start w).done⟩
  have hle : la.length = lb.length := by omega
  simp only [decide_eq_false hlen, i_f, sl_len Tryz.underlying44 ha]
  refine loop (fun vs w' => ∃ (i : Nat), vs = [.int .i64 i] ∧ i ≤ la.length ∧ la.take i = lb.take i ∧ Own w w' []) (fun vs _ => la.length - n0 vs) ⟨0, rfl, by omega, by simp, Own.start w⟩ ?_
  rintro vs w2 ⟨i, rfl, hi, he, ho⟩ _
  simp only [S_foliantref55_Same_0, gd, rs]
  by_cases hlt : (i : Int) < (la.length : Int)
  · have h1 : i < la.length := by omega
    have h2 : i < lb.length := by omega
    have hlt2 : (i : Int) < (lb.length : Int) := by omega
    simp only [hlt, decide_true, rs]
    obtain ⟨ba, oa, ca, rfl, hca⟩ := sl_open ha (by omega)
    obtain ⟨bb, ob, cb, rfl, hcb⟩ := sl_open hb (by omega)
    refine quiet (q_do _ (fun _ => run_ia Tryz.underlying44 (show _ = some 5 by kernel_rfl) (by omega) (by omega)) ?_)
    refine q_at (stV la[i]) (fun wc hw => run_load_at ?_) ?_
    · have := st_at (w := wc) (l := la) (fun j u hj => (ho.grow hw).old (hca j u hj)) h1
      rw [Int.toNat_natCast]; exact this
    refine q_do _ (fun _ => run_ia Tryz.underlying44 (show _ = some 5 by kernel_rfl) (by omega) (by omega)) ?_
    refine q_at (stV lb[i]) (fun wc hw => run_load_at ?_) ?_
    · have := st_at (w := wc) (l := lb) (fun j u hj => (ho.grow hw).old (hcb j u hj)) h2
      rw [Int.toNat_natCast]; exact this
    refine q_do _ (fun _ => r_stne) ?_
    intro w3 hw
    have ho := ho.grow hw
    by_cases hq : la[i] = lb[i]
    · simp only [hq, decide_true, Bool.not_true, i_f, rs]
      rw [wrap64_id (by omega) (by omega)]
      refine nextX ⟨i + 1, rfl, by omega, ?_, ho⟩ (by simp [n0, intOf]; omega)
      rw [List.take_succ_eq_append_getElem h1, List.take_succ_eq_append_getElem h2, he, hq]
    · simp only [hq, decide_false, Bool.not_false, i_t]
      have hne : la ≠ lb := fun e => hq (by subst e; rfl)
      exact hK _ _ ⟨by rw [decide_eq_false hne], ho.done⟩
  · simp only [hlt, decide_false, rs, g_un]
    have hab : la = lb := by
      rw [List.take_of_length_le (by omega), List.take_of_length_le (by omega)] at he; exact he
    exact hK _ _ ⟨by rw [decide_eq_true hab], ho.done⟩
end Go.Proofs.YtjajlcacbbnodaaGreatDoor
/- Contract: foliantref55 (Light). -/
namespace Go.Proofs.YtjajlcacbbnodaaGreatDoor
set_option linter.unusedVariables false
set_option linter.unusedSimpArgs false
set_option linter.defProp false
open Eng Go.RowKit
 attribute [local congr] g_congr

def wt (l : List Sc.Step) : Nat := (l.map fun x => x.s.length + x.t.length).sum
def Light (l : List Sc.Step) : Prop := l.length ≤ 300 ∧ (∀ x ∈ l, x.s.length ≤ 3000 ∧ x.t.length ≤ 3000) ∧ wt l ≤ 6000
theorem wt_le : ∀ l : List Sc.Step, (∀ x ∈ l, x.s.length ≤ 3000 ∧ x.t.length ≤ 3000) → wt l ≤ 6000 * l.length
  | [], _ => by simp [wt]
  | x :: l, h => by
    have h1 := h x (List.mem_cons_self ..)
    have h2 := wt_le l fun y hy => h y (List.mem_cons_of_mem _ hy)
    simp only [wt, List.map_cons, List.sum_cons, List.length_cons] at h2 ⊢
    omega
theorem wt_snoc (l : List Sc.Step) (x : Sc.Step) : wt (l ++ [x]) = wt l + (x.s.length + x.t.length) := by simp [wt]
theorem light_ret (l : List Sc.Step) (v : Value) (w : World) (hs : Sl w v 5 l.length (l.flatMap stC)) (hl : l.length ≤ 9223372036854775807) : Ret Tryz.prog 23 #[v] w (fun r w' => (∃ b, r = .bool b ∧ (b = true → Light l)) ∧ Below w.heap.size w w') := by
  refine ret_of fun K hK => S_foliantref55_Light_ok ?_
  unfold S_foliantref55_Light
  rw [sl_len Tryz.underlying44 hs]
  refine loop (fun vs w' => ∃ (n : Int) (i : Nat), vs = [.int .i64 n, .int .i64 i] ∧ i ≤ l.length ∧ (l.length ≤ 300 → n = (wt (l.take i) : Nat)) ∧ (∀ x ∈ l.take i, x.s.length ≤ 3000 ∧ x.t.length ≤ 3000) ∧ Own w w' []) (fun vs _ => l.length - n1 vs) ⟨0, 0, rfl, by omega, by simp [wt], by simp, Own.start w⟩ ?_
  rintro vs w2 ⟨n, i, rfl, hi, hn, hsh, ho⟩ _
  simp only [S_foliantref55_Light_0, gd, rs]
  by_cases hlt : (i : Int) < (l.length : Int)
  · have hi' : i < l.length := by omega
    simp only [hlt, decide_true, rs]
    refine st_ia (ho.oldSl hs) hi' hl ?_
    refine o_sta ho fun b5 w3 ho => ?_
    refine st_set 0 l[i] ho rfl fun w4 ho => ?_
    have ho : Own w w4 [stE b5 l[i]] := ho
    by_cases g1 : (3000 : Int) < (l[i].s.length : Int)
    · simp only [fa_s3, st_s ho 0 rfl, s_len Tryz.underlying9, g1, decide_true, rs, g_un]
      exact hK _ _ ⟨⟨false, rfl, fun h => by cases h⟩, ho.done⟩
    by_cases g2 : (3000 : Int) < (l[i].t.length : Int)
    · simp only [fa_s3, st_s ho 0 rfl, fa_s4, st_t ho 0 rfl, s_len Tryz.underlying9, g1, g2, decide_true, decide_false, rs]
      exact hK _ _ ⟨⟨false, rfl, fun h => by cases h⟩, ho.done⟩
    simp only [fa_s3, st_s ho 0 rfl, fa_s4, st_t ho 0 rfl, s_len Tryz.underlying9, g1, g2, decide_false, rs]
    rw [wrap64_id (n := (l[i].s.length : Int) + (l[i].t.length : Int)) (by omega) (by omega), wrap64_id (n := (i : Int) + 1) (by omega) (by omega)]
    have hsh2 : ∀ x ∈ l.take (i + 1), x.s.length ≤ 3000 ∧ x.t.length ≤ 3000 := by
      intro x hx
      rw [List.take_succ_eq_append_getElem hi'] at hx
      rcases List.mem_append.1 hx with h | h
      · exact hsh x h
      · rw [List.mem_singleton] at h
        subst h
        omega
    refine nextX ⟨_, i + 1, rfl, by omega, fun h3 => ?_, hsh2, ho.tail⟩ (by simp [n1, intOf]; omega)
    have hb := wt_le (l.take i) hsh
    rw [List.length_take] at hb
    rw [hn h3, List.take_succ_eq_append_getElem hi', wt_snoc, wrap64_id (by omega) (by omega)]
    omega
  · simp only [hlt, decide_false, rs]
    rw [sl_len Tryz.underlying44 (ho.oldSl hs)]
    rw [List.take_of_length_le (by omega)] at hsh hn
    by_cases g3 : (l.length : Int) ≤ 300
    · simp only [g3, decide_true, rs]
      refine hK _ _ ⟨⟨_, rfl, fun h => ?_⟩, ho.done⟩
      have := of_decide_eq_true h
      have e := hn (by omega)
      exact ⟨by omega, hsh, by omega⟩
    · simp only [g3, decide_false, rs, g_un]
      exact hK _ _ ⟨⟨false, rfl, fun h => by cases h⟩, ho.done⟩
end Go.Proofs.YtjajlcacbbnodaaGreatDoor
/- Contract: strings.SplitSeq at a line feed. -/
namespace Go.Proofs.YtjajlcacbbnodaaGreatDoor
set_option linter.unusedVariables false
set_option linter.unusedSimpArgs false
set_option linter.defProp false
open Eng Go.RowKit

theorem splitSeq_ret (s : List UInt8) (w : World) : Ret Tryz.prog 90 #[.string ⟨s.toArray⟩, .string ⟨#[10]⟩] w
    (fun v w' => ∃ b3 b4 b5, v = .func (.func 241) #[] #[.pointer (some ⟨b4, 0, none⟩), .pointer (some ⟨b3, 0, none⟩), .pointer (some ⟨b5, 0, none⟩)] ∧ Own w w' (cutF b3 b4 b5 s)) := by
  refine ret_of fun K hK => S_strings_SplitSeq_ok ?_
  unfold S_strings_SplitSeq
  have inner : Ret Tryz.prog 166 #[.string ⟨s.toArray⟩, .string ⟨#[10]⟩, .int .i64 0] w
      (fun v w' => ∃ b3 b4 b5, v = .func (.func 241) #[] #[.pointer (some ⟨b4, 0, none⟩), .pointer (some ⟨b3, 0, none⟩), .pointer (some ⟨b5, 0, none⟩)] ∧ Own w w' (cutF b3 b4 b5 s)) := by
    refine ret_of fun K hK => S_strings_splitSeq_ok ?_
    unfold S_strings_splitSeq
    refine o_new (fun b => .pointer (some ⟨b, 0, none⟩)) [.string ⟨s.toArray⟩] 9 (fun _ => by kernel_rfl) (Own.start w) fun b3 w1 ho => ?_
    refine o_new (fun b => .pointer (some ⟨b, 0, none⟩)) [.string ⟨#[10]⟩] 9 (fun _ => by kernel_rfl) ho fun b4 w2 ho => ?_
    refine o_new (fun b => .pointer (some ⟨b, 0, none⟩)) [.int .i64 0] 3 (fun _ => by kernel_rfl) ho fun b5 w3 ho => ?_
    rw [m_func]
    exact hK _ _ ⟨b3, b4, b5, rfl, ho⟩
  refine c_ret inner ?_
  rintro v w' h
  exact hK _ _ h
end Go.Proofs.YtjajlcacbbnodaaGreatDoor
/- Contracts: foliantref55 (line, Line). -/
namespace Go.Proofs.YtjajlcacbbnodaaGreatDoor
set_option linter.unusedVariables false
set_option linter.unusedSimpArgs false
set_option linter.defProp false
open Eng Go.RowKit

theorem fo_s0 : fOff Tryz.prog 43 0 = some 0 := by kernel_rfl
theorem r55line_ret (x : Sc.Step) (w : World) (hc : Sc.check x = 0) : Ret Tryz.prog 81 #[stV x] w (fun v w' => v = .string ⟨(Sc.lineT x).toArray⟩ ∧ Below w.heap.size w w') := by
  refine ret_of fun K hK => S_foliantref55_line_ok ?_
  unfold S_foliantref55_line
  obtain ⟨u, hu, k1, k2, _, _, _, _, ha0, ha1, hb0, hb1, hsl, htl⟩ := Sc.check_zero hc
  refine o_stb x (Own.start w) fun b w1 ho => ?_
  refine ⟨fun W' => ∃ L, Own w W' (L ++ [stE b x]), ⟨[], ho.drew⟩, ?_⟩
  refine ⟨_, fun W' _ => run_fa fo_s0, ?_⟩
  refine ⟨.int .i64 x.k, fun W' ⟨L, h⟩ => run_load_cell nInt (cells_cell (h.mem (e := stE b x) (by simp)) (i := 0) rfl), ?_⟩
  refine ⟨_, fun W' _ => r_sub, ?_⟩
  rw [wrap64_id (by omega) (by omega)]
  refine c_ret (rwords_ret _) ?_
  rintro v6 w2 hn
  have ho := ho.drew.join hn
  have ho : Own w w2 [StrRow v6 Sc.words, stE b x] := ho
  refine ⟨⟨[StrRow v6 Sc.words], ho⟩, ?_⟩
  have hwl : x.k.toNat - 1 < Sc.words.length := by have : Sc.words.length = 21 := rfl; omega
  have hsl := ho.slRow 0 rfl
  obtain ⟨g, off, cap, rfl, hcl⟩ := sl_open hsl (show 0 < Sc.words.length by omega)
  refine ⟨_, fun _ _ => run_ia Tryz.underlying22 (show _ = some 1 by kernel_rfl) (by omega) (by omega), ?_⟩
  have hq := hcl (x.k - 1).toNat (.string ⟨(Sc.words[x.k.toNat - 1]).toArray⟩) (by rw [show (x.k - 1).toNat = x.k.toNat - 1 by omega]; exact strsV_get hwl)
  rw [Nat.mul_one, l_cell nStr hq]
  refine ⟨⟨[StrRow (.slice (some ⟨g, off, none⟩) Sc.words.length cap) Sc.words], ho⟩, ?_⟩
  have ew : Sc.words[x.k.toNat - 1] = Sc.word x.k := by rw [Sc.word, List.getD_eq_getElem?_getD, List.getElem?_eq_getElem hwl]; rfl
  rw [ew]
  have hwl : (Sc.word x.k).length ≤ 8 := words_short ⟨x.k.toNat - 1, by omega⟩
  rw [fa_s0, st_k ho 1 rfl]
  refine c_told (ruses_ret x.k w2 (by omega) (by omega)) rfl ho fun w3 ho => ?_
  have hul := uses_short hu
  have eu : usesR x.k = u := by rw [usesR, hu]; rfl
  rw [eu]
  refine loop (fun vs w' => ∃ (i : Nat), vs = [.string ⟨(Sc.word x.k ++ Sc.fields x (u.take i)).toArray⟩, .int .i64 i] ∧ i ≤ u.length ∧ Own w w' [StrRow (.slice (some ⟨g, off, none⟩) Sc.words.length cap) Sc.words, stE b x])
    (fun vs _ => u.length - n1 vs) ⟨0, by simp [Sc.fields], by omega, ho⟩ ?_
  rintro vs w5 ⟨i, rfl, hi, ho⟩ _
  simp only [S_foliantref55_line_0, gd, s_len Tryz.underlying9, rs]
  have hfl := fields_len x hc (u.take i)
  rw [List.length_take] at hfl
  by_cases hlt : (i : Int) < (u.length : Int)
  · have hi' : i < u.length := by omega
    have hcu := Sc.uses_ok hu u[i] (List.getElem_mem hi')
    have hx : ∀ {PK : List PanicEntry → World → Prop} {K : Value → World → Prop}, DoX Tryz.prog (mIx 9 (.string ⟨u.toArray⟩) (.int .i64 (i : Int))) w5 PK K = K (.int .u8 (u[i].toNat : Int)) w5 := s_ix (c := u[i]) Tryz.underlying9 (Int.natCast_nonneg i) (by simp [hi'])
    simp only [hlt, decide_true, rs, hx]
    refine join fun J hJ => ?_
    have fin : ∀ (f : List UInt8) (W : World), f = Sc.field x u[i] → Own w W [StrRow (.slice (some ⟨g, off, none⟩) Sc.words.length cap) Sc.words, stE b x] →
        DoX Tryz.prog (mBin .add 9 (.string ⟨#[32]⟩) (.string ⟨f.toArray⟩)) W (pk K) fun t w => DoX Tryz.prog (mBin .add 9 (.string ⟨(Sc.word x.k ++ Sc.fields x (u.take i)).toArray⟩) t) w (pk K) fun t w => J [t] w := by
      rintro f W rfl ho
      have hf1 := field_len x hc u[i]
      refine do_eq (run_s_add (a := [32]) (b := Sc.field x u[i]) (by simp; omega)) |>.mpr ?_
      rw [s_add (by simp; omega)]
      refine hJ _ _ fun _ => ?_
      simp only [S_foliantref55_line_1, gd, rs]
      rw [wrap64_id (by omega) (by omega)]
      refine nextX ⟨i + 1, ?_, by omega, ho⟩ (by simp [n1, intOf]; omega)
      rw [List.take_add_one, List.getElem?_eq_getElem hi']
      simp only [Option.toList, fields_snoc]
      simp
    rcases hcu with h | h | h | h
    · simp only [h, show ((65 : UInt8).toNat : Int) = 65 from rfl, decide_true, rs, fa_s1, st_a ho 1 rfl]
      exact c_told (rint55_ret x.a w5 (by omega) (by omega)) rfl ho fun w7 ho => fin _ w7 (by rw [h]; rfl) ho
    · simp only [h, show ((66 : UInt8).toNat : Int) = 66 from rfl, Int.reduceEq, decide_true, decide_false, rs, fa_s2, st_b ho 1 rfl]
      exact c_told (rint55_ret x.b w5 (by omega) (by omega)) rfl ho fun w7 ho => fin _ w7 (by rw [h]; rfl) ho
    · simp only [h, show ((83 : UInt8).toNat : Int) = 83 from rfl, Int.reduceEq, decide_true, decide_false, rs, fa_s3, st_s ho 1 rfl]
      exact c_told (rquote_ret x.s w5 (by omega)) rfl ho fun w7 ho => fin _ w7 (by rw [h]; rfl) ho
    · simp only [h, show ((84 : UInt8).toNat : Int) = 84 from rfl, Int.reduceEq, decide_true, decide_false, rs, fa_s4, st_t ho 1 rfl]
      exact c_told (rquote_ret x.t w5 (by omega)) rfl ho fun w7 ho => fin _ w7 (by rw [h]; rfl) ho
  · have hi2 : i = u.length := by omega
    subst hi2
    have eT : Sc.word x.k ++ Sc.fields x u = Sc.lineT x := by rw [Sc.lineT, hu, Option.getD_some]
    simp only [hlt, decide_false, i_f, List.take_length, eT]
    exact hK _ _ ⟨rfl, ho.done⟩
theorem rsline_ret (x : Sc.Step) (w : World) (h0 : -9223372036854775808 ≤ x.k) (h1 : x.k ≤ 9223372036854775807) : Ret Tryz.prog 26 #[stV x] w (fun v w' => v = strErrV (Sc.line x) ∧ Below w.heap.size w w') := by
  refine ret_of fun K hK => S_foliantref55_Line_ok ?_
  unfold S_foliantref55_Line
  refine o_stb x (Own.start w) fun b w1 ho => ?_
  rw [st_v ho 0 rfl]
  refine c_told (rcheck_ret x w1 h0 h1) rfl ho fun w2 ho => ?_
  simp only [rs]
  by_cases hc : Sc.check x = 0
  case neg =>
    simp only [ne_eq, hc, not_false_eq_true, decide_true, rs]
    exact hK _ _ ⟨by rw [Sc.line, if_pos hc]; rfl, ho.done⟩
  simp only [ne_eq, hc, not_true, decide_false, rs, st_v ho 0 rfl]
  refine c_told (r55line_ret x w2 hc) rfl ho fun w3 ho => ?_
  simp only [s_len Tryz.underlying9, rs]
  by_cases hbig : (65535 : Int) < ((Sc.lineT x).length : Int)
  · simp only [hbig, decide_true, rs]
    exact hK _ _ ⟨by rw [Sc.line, if_neg (by simp [hc]), if_pos (by omega)]; rfl, ho.done⟩
  · simp only [hbig, decide_false, rs]
    exact hK _ _ ⟨by rw [Sc.line, if_neg (by simp [hc]), if_neg (by omega)]; rfl, ho.done⟩
end Go.Proofs.YtjajlcacbbnodaaGreatDoor
/- Contract: foliantref55 (Parse). -/
namespace Go.Proofs.YtjajlcacbbnodaaGreatDoor
set_option linter.unusedVariables false
set_option linter.unusedSimpArgs false
set_option linter.defProp false
open Eng Go.RowKit
 attribute [local congr] g_congr

theorem head_take {l : List UInt8} {i : Nat} (hall : (l.take i).all (fun c => c != 32) = true) (hstop : ¬ (i < l.length ∧ l.getD i 0 ≠ 32)) : Sc.head l = l.take i := by
  have e : l = l.take i ++ l.drop i := (List.take_append_drop i l).symm
  unfold Sc.head
  conv => lhs; rw [e]
  refine Sc.takeWhile_stop _ _ (fun c hc => List.all_eq_true.1 hall c hc) ?_
  rcases Nat.lt_or_ge i l.length with h | h
  · right
    refine ⟨l[i], l.drop (i + 1), List.drop_eq_getElem_cons h, ?_⟩
    have : l.getD i 0 = 32 := by simpa [h] using hstop
    rw [List.getD_eq_getElem?_getD, List.getElem?_eq_getElem h] at this
    have : l[i] = 32 := this
    rw [this]; rfl
  · left; exact List.drop_of_length_le h
theorem num_len0 : ∀ (l : List UInt8) (n : Nat), (Sc.num n l).2 ≤ l.length
  | [], n => by simp [Sc.num]
  | c :: t, n => by
    rw [Sc.num]
    split
    · have := num_len0 t (10 * n + (c.toNat - 48)); simp only [List.length_cons]; omega
    · simp
theorem num_len (l : List UInt8) (a : Nat) : (Sc.num 0 (l.drop a)).2 ≤ l.length - a := by
  have := num_len0 (l.drop a) 0
  rwa [List.length_drop] at this
theorem quo_len0 : ∀ (f : Nat) (l : List UInt8), (Sc.quo f l).2 ≤ l.length
  | 0, l => by simp [Sc.quo]
  | f + 1, [] => by simp [Sc.quo]
  | f + 1, c :: t => by
    rw [Sc.quo]
    split
    · simp
    split
    · have := quo_len0 f t; simp only [List.length_cons]; omega
    split
    · have := quo_len0 f (t.drop 3); rw [List.length_drop] at this; simp only [List.length_cons]; omega
    split
    · have := quo_len0 f (t.drop 1); rw [List.length_drop] at this; simp only [List.length_cons]; omega
    · have := quo_len0 f t; simp only [List.length_cons]; omega
theorem quo_len (l : List UInt8) (a : Nat) : (Sc.quo l.length (l.drop a)).2 ≤ l.length - a := by
  have := quo_len0 l.length (l.drop a)
  rwa [List.length_drop] at this
theorem words_nodup : Sc.words.Nodup := by decide +kernel
/-- The kind that the words up to i tell. -/
def kindTo (h : List UInt8) (i : Nat) : Int := if Sc.words.idxOf h < i then (Sc.words.idxOf h : Int) + 1 else 0
theorem kindTo_end (h : List UInt8) : kindTo h 21 = (Sc.kind h).getD 0 := by
  unfold kindTo Sc.kind
  split <;> rfl
theorem kindTo_succ (h : List UInt8) {i : Nat} (hi : i < Sc.words.length) : kindTo h (i + 1) = if Sc.words[i] = h then (i : Int) + 1 else kindTo h i := by
  have hw : Sc.words.idxOf Sc.words[i] = i := List.Nodup.idxOf_getElem words_nodup i hi
  unfold kindTo
  split
  · rename_i h1
    split
    · rename_i h2; subst h2; rw [hw]
    · rename_i h2
      have : Sc.words.idxOf h ≠ i := by
        intro e
        apply h2
        have hl : Sc.words.idxOf h < Sc.words.length := by omega
        have := List.getElem_idxOf hl
        simp only [e] at this
        exact this
      rw [if_pos (by omega)]
  · rename_i h1
    split
    · rename_i h2; subst h2; rw [hw] at h1; omega
    · rw [if_neg (by omega)]
theorem rparse_ret (l : List UInt8) (w : World) (hl : l.length ≤ 1099511627776) : Ret Tryz.prog 28 #[.string ⟨l.toArray⟩] w (fun v w' => v = parV (Sc.parse l) ∧ Below w.heap.size w w') := by
  rw [← Sc.parseR_eq]
  refine ret_of fun K hK => S_foliantref55_Parse_ok ?_
  unfold S_foliantref55_Parse
  refine o_sta (Own.start w) fun b2 w1 ho => ?_
  simp only [s_len Tryz.underlying9, rs]
  by_cases hbig : (65535 : Int) < (l.length : Int)
  · simp only [hbig, decide_true, rs, m_st0]
    exact st_put 0 _ ho rfl fun w' ho => hK _ _ ⟨by rw [Sc.parseR, if_pos (by omega)], ho.done⟩
  simp only [hbig, decide_false, rs]
  refine loop (fun vs w' => ∃ (i : Nat), vs = [.int .i64 i] ∧ i ≤ l.length ∧ (l.take i).all (fun c => c != 32) = true ∧ Own w w' [stE b2 Sc.none']) (fun vs _ => l.length - n0 vs) ⟨0, rfl, by omega, by simp, ho⟩ ?_
  rintro vs w2 ⟨i, rfl, hi, hall, ho⟩ _
  have hx : decide ((i : Int) < (l.length : Int)) = true → ∀ {PK K}, DoX Tryz.prog (mIx 9 (.string ⟨l.toArray⟩) (.int .i64 (i : Int))) w2 PK K = K (.int .u8 ((l.getD i 0).toNat : Int)) w2 := by
    intro h PK K
    have h := of_decide_eq_true h
    have hi' : i < l.length := by omega
    rw [List.getD_eq_getElem?_getD, List.getElem?_eq_getElem hi']
    exact s_ix (c := l[i]) Tryz.underlying9 (Int.natCast_nonneg i) (by simp [hi'])
  simp +contextual only [S_foliantref55_Parse_0, gd, s_len Tryz.underlying9, rs, gs, hx]
  by_cases hgo : i < l.length ∧ l.getD i 0 ≠ 32
  · obtain ⟨h1, h2⟩ := hgo
    have e2 : ((l.getD i 0).toNat : Int) ≠ 32 := fun h => h2 (UInt8.toNat_inj.1 (by have : (32 : UInt8).toNat = 32 := rfl; omega))
    simp only [decide_eq_true (show (i : Int) < (l.length : Int) by omega), decide_eq_true e2, Bool.and_self, i_t]
    rw [wrap64_id (by omega) (by omega)]
    refine nextX ⟨i + 1, rfl, by omega, ?_, ho⟩ (by simp [n0, intOf]; omega)
    rw [List.take_add_one, List.getElem?_eq_getElem h1, List.all_append, hall]
    rw [List.getD_eq_getElem?_getD, List.getElem?_eq_getElem h1] at h2
    simpa using h2
  have hh := head_take hall hgo
  have hcond : (decide ((i : Int) < (l.length : Int)) && decide (((l.getD i 0).toNat : Int) ≠ 32)) = false := by
    rw [Bool.and_eq_false_iff]
    by_cases h1 : i < l.length
    · right
      have h2 : l.getD i 0 = 32 := by simpa [h1] using hgo
      rw [h2]; rfl
    · left; rw [decide_eq_false (by omega)]
  simp only [hcond, i_f, m_st0]
  refine o_sta ho fun b5 w3 ho => ?_
  refine st_set 0 Sc.none' ho rfl fun w4 ho => ?_
  have ho : Own w w4 [stE b5 Sc.none', stE b2 Sc.none'] := ho
  refine c_ret (rwords_ret _) ?_
  rintro v6 w5 hn
  have ho := ho.join hn
  have ho : Own w w5 [StrRow v6 Sc.words, stE b5 Sc.none', stE b2 Sc.none'] := ho
  have hwl : Sc.words.length = 21 := rfl
  rw [sl_len Tryz.underlying22 (ho.slRow 0 rfl)]
  refine loop (fun vs w' => ∃ (j : Nat), vs = [.int .i64 j] ∧ j ≤ 21 ∧ Own w w' [StrRow v6 Sc.words, stE b5 ⟨kindTo (Sc.head l) j, 0, 0, [], []⟩, stE b2 Sc.none']) (fun vs _ => 21 - n0 vs) ⟨0, rfl, by omega, by simpa [kindTo, Sc.none'] using ho⟩ ?_
  rintro vs w6 ⟨j, rfl, hj, ho⟩ _
  simp only [S_foliantref55_Parse_1, gd, rs, hwl]
  by_cases hjl : (j : Int) < ((21 : Nat) : Int)
  · have hj' : j < Sc.words.length := by omega
    simp only [hjl, decide_true, rs]
    refine join fun J hJ => ?_
    refine sl_ia1 (.string ⟨(Sc.words[j]).toArray⟩) Tryz.underlying22 (by kernel_rfl) (ho.slRow 0 rfl) (by omega) (by rw [Int.toNat_natCast]; exact strsV_get hj') fun q hq => ?_
    rw [l_cell nStr hq, s_upto Tryz.underlying9 (by omega) (by omega), Int.toNat_natCast, ← hh]
    simp only [rs]
    have fin : ∀ W, Own w W [StrRow v6 Sc.words, stE b5 ⟨kindTo (Sc.head l) (j + 1), 0, 0, [], []⟩, stE b2 Sc.none'] → J [] W := by
      intro W ho
      refine hJ _ _ fun _ => ?_
      simp only [S_foliantref55_Parse_2, rs]
      rw [wrap64_id (by omega) (by omega)]
      exact nextX ⟨j + 1, rfl, by omega, ho⟩ (by simp [n0, intOf]; omega)
    rw [kindTo_succ _ hj'] at fin
    by_cases hq : Sc.words[j] = Sc.head l
    · simp only [hq, decide_true, i_t]
      rw [wrap64_id (by omega) (by omega), fa_s0]
      rw [if_pos hq] at fin
      refine o_store 1 ho rfl (v := .int .i64 ((j : Int) + 1)) szInt' rfl (by simp [stC]) fun w7 ho => fin w7 ho
    · simp only [hq, decide_false, i_f]
      rw [if_neg hq] at fin
      exact fin w6 ho
  have hj21 : j = 21 := by omega
  subst hj21
  rw [kindTo_end] at ho
  simp only [hjl, decide_false, i_f, fa_s0, st_k ho 1 rfl]
  generalize hkk : (Sc.kind (Sc.head l)).getD 0 = k at *
  have hkb : 0 ≤ k ∧ k ≤ 21 := by
    rw [← hkk]; unfold Sc.kind
    split
    · simp only [Option.getD_some]; omega
    · simp
  refine c_told (ruses_ret k w6 (by omega) (by omega)) rfl ho fun w7 ho => ?_
  have hP : Sc.parseR l = (if Sc.line (Sc.takesR l ((Sc.uses k).getD []) ⟨k, 0, 0, [], []⟩ i) = (l, 0) then (Sc.takesR l ((Sc.uses k).getD []) ⟨k, 0, 0, [], []⟩ i, 0) else (Sc.none', 33)) := by
    rw [Sc.parseR, if_neg (by omega), hkk, hh, List.length_take, Nat.min_eq_left hi]
  rw [hP] at hK
  clear hP
  generalize hzz : Sc.takesR l ((Sc.uses k).getD []) ⟨k, 0, 0, [], []⟩ i = z at *
  -- the end: the step is written again and compared
  have fin : ∀ W, Own w W [StrRow v6 Sc.words, stE b5 z, stE b2 Sc.none'] → z.k = k → 
      DoX Tryz.prog (mLoad 43 (.pointer (some ⟨b5, 0, none⟩))) W (pk K) fun t107 w =>
      CallX Tryz.prog 26 #[t107] w (pk K) fun t108 w =>
      DoX Tryz.prog (mExt t108 0) w (pk K) fun t109 w =>
      DoX Tryz.prog (mExt t108 1) w (pk K) fun t110 w =>
      DoX Tryz.prog (mEq .neq 28 (.tmp 111) (.const (.int .i64 0)) t110 (.int .i64 0)) w (pk K) fun t112 w =>
      GDo t112 false (fun E => E t109 w) w fun t114 w =>
      GDo t112 false (fun E => E (.string ⟨l.toArray⟩) w) w fun t115 w =>
      GDo t112 false (fun E => DoX Tryz.prog (mEq .neq 9 (.tmp 114) (.tmp 115) t114 t115) w (pk K) E) w fun t116 w =>
      DoX Tryz.prog (mPick t112 (.bool true) t116) w (pk K) fun t117 w =>
      IfX t117 (DoX Tryz.prog (mBuild 43 #[]) w (pk K) fun t118 w =>
      DoX Tryz.prog (mStore 43 (.pointer (some ⟨b2, 0, none⟩)) t118) w (pk K) fun _ w =>
      RetX Tryz.prog [.cell (.pointer (some ⟨b2, 0, none⟩)) 43, .val (.int .i64 33)] w K) (DoX Tryz.prog (mLoad 43 (.pointer (some ⟨b5, 0, none⟩))) w (pk K) fun t119 w =>
      DoX Tryz.prog (mStore 43 (.pointer (some ⟨b2, 0, none⟩)) t119) w (pk K) fun _ w =>
      RetX Tryz.prog [.cell (.pointer (some ⟨b2, 0, none⟩)) 43, .val (.int .i64 0)] w K) := by
    intro W ho hzk
    rw [st_v ho 1 rfl]
    refine c_told (rsline_ret z W (by omega) (by omega)) rfl ho fun w8 ho => ?_
    generalize hln : Sc.line z = ln at *
    simp only [strErrV, ex, rs]
    by_cases h1 : ln.2 = 0
    · by_cases h2 : ln.1 = l
      · simp only [ne_eq, h1, h2, not_true, decide_false, rs, st_v ho 1 rfl]
        refine st_put 2 _ ho rfl fun w' ho => hK _ _ ⟨?_, ho.done⟩
        rw [if_pos (by rw [← h1, ← h2])]
      · simp only [ne_eq, h1, h2, not_true, not_false_eq_true, decide_true, decide_false, rs, m_st0]
        refine st_put 2 _ ho rfl fun w' ho => hK _ _ ⟨?_, ho.done⟩
        rw [if_neg (by rintro rfl; exact h2 rfl)]
    · simp only [ne_eq, h1, not_false_eq_true, decide_true, rs, g_un, m_st0]
      refine st_put 2 _ ho rfl fun w' ho => hK _ _ ⟨?_, ho.done⟩
      rw [if_neg (by rintro rfl; exact h1 rfl)]
  cases huk : Sc.uses k with
  | none =>
    have hur : usesR k = [63] := by rw [usesR, huk]; rfl
    rw [hur]
    rw [huk, Option.getD_none, Sc.takesR] at hzz
    subst hzz
    refine loop (fun vs w' => vs = [.int .i64 i, .int .i64 0] ∧ Own w w' [StrRow v6 Sc.words, stE b5 ⟨k, 0, 0, [], []⟩, stE b2 Sc.none']) (fun vs _ => 0) ⟨rfl, ho⟩ ?_
    rintro vs w8 ⟨rfl, ho⟩ _
    have e63 : ∀ {xo yo : Operand} {w : World} {PK K}, DoX Tryz.prog (mEq .neq 9 xo yo (.string ⟨[63].toArray⟩) (.string ⟨#[63]⟩)) w PK K = K (.bool false) w := n_str (a := [63]) (b := [63])
    have := fin w8 ho rfl
    by_cases hii : (i : Int) + 1 < (l.length : Int)
    · simp only [S_foliantref55_Parse_3, gd, s_len Tryz.underlying9, rs, List.length_singleton, show (0 : Int) < ((1 : Nat) : Int) by decide, decide_true, wrap64_id (n := (i : Int) + 1) (by omega) (by omega), hii, e63] at this ⊢
      exact this
    · simp only [S_foliantref55_Parse_3, gd, s_len Tryz.underlying9, rs, List.length_singleton, show (0 : Int) < ((1 : Nat) : Int) by decide, decide_true, wrap64_id (n := (i : Int) + 1) (by omega) (by omega), hii, decide_false, g_un] at this ⊢
      exact this
  | some u =>
    have hur : usesR k = u := by rw [usesR, huk]; rfl
    rw [hur]
    rw [huk, Option.getD_some] at hzz
    have hul := uses_short huk
    have hune : u ≠ [63] := by
      intro e
      have := Sc.uses_ok huk 63 (by rw [e]; simp)
      revert this; decide
    refine loop (fun vs w' => ∃ (j at_ : Nat) (y : Sc.Step), vs = [.int .i64 at_, .int .i64 j] ∧ j ≤ u.length ∧ at_ ≤ l.length + 1 ∧ y.k = k ∧ Sc.takesR l (u.drop j) y at_ = z ∧ Own w w' [StrRow v6 Sc.words, stE b5 y, stE b2 Sc.none'])
      (fun vs _ => u.length - n1 vs) ⟨0, i, _, rfl, by omega, by omega, rfl, hzz, ho⟩ ?_
    rintro vs w8 ⟨j, at_, y, rfl, hj, hat, hyk, hT, ho⟩ _
    have stop : (Sc.takesR l (u.drop j) y at_ = y) → y = z := fun h => h.symm.trans hT
    by_cases hlt : (j : Int) < (u.length : Int)
    case neg =>
      have hyz := stop (by rw [List.drop_of_length_le (by omega), Sc.takesR])
      subst hyz
      have := fin w8 ho hyk
      simp only [S_foliantref55_Parse_3, gd, s_len Tryz.underlying9, rs, hlt, decide_false, g_un] at this ⊢
      exact this
    have hj' : j < u.length := by omega
    have hd : u.drop j = u[j] :: u.drop (j + 1) := List.drop_eq_getElem_cons hj'
    by_cases hii : (at_ : Int) + 1 < (l.length : Int)
    case neg =>
      have hyz := stop (by rw [hd, Sc.takesR, if_neg (by omega)])
      subst hyz
      have := fin w8 ho hyk
      simp only [S_foliantref55_Parse_3, gd, s_len Tryz.underlying9, rs, hlt, decide_true, wrap64_id (n := (at_ : Int) + 1) (by omega) (by omega), hii, decide_false, g_un] at this ⊢
      exact this
    have e63 : ∀ {xo yo : Operand} {w : World} {PK K}, DoX Tryz.prog (mEq .neq 9 xo yo (.string ⟨u.toArray⟩) (.string ⟨#[63]⟩)) w PK K = K (.bool true) w := by
      intro xo yo w PK K
      have := n_str (P := Tryz.prog) (T := 9) (xo := xo) (yo := yo) (w := w) (PK := PK) (K := K) (a := u) (b := [63])
      rw [decide_eq_true hune] at this
      exact this
    have hx : ∀ {w : World} {PK K}, DoX Tryz.prog (mIx 9 (.string ⟨u.toArray⟩) (.int .i64 (j : Int))) w PK K = K (.int .u8 (u[j].toNat : Int)) w := s_ix (c := u[j]) Tryz.underlying9 (Int.natCast_nonneg j) (by simp [hj'])
    have ea : (at_ : Int) + 1 = ((at_ + 1 : Nat) : Int) := by omega
    simp only [S_foliantref55_Parse_3, gd, s_len Tryz.underlying9, rs, hlt, decide_true, wrap64_id (n := (at_ : Int) + 1) (by omega) (by omega), hii, e63]
    refine join fun J hJ => ?_
    have go : ∀ (y' : Sc.Step) (m : Nat) (n : Int) (W : World), n = (m : Int) → m ≤ l.length + 1 → y'.k = k → Sc.takesR l (u.drop j) y at_ = Sc.takesR l (u.drop (j + 1)) y' m → Own w W [StrRow v6 Sc.words, stE b5 y', stE b2 Sc.none'] → J [.int .i64 n] W := by
      rintro y' m n W rfl hm hk' hT' ho
      refine hJ _ _ fun _ => ?_
      simp only [S_foliantref55_Parse_4, gd, rs]
      rw [wrap64_id (by omega) (by omega)]
      exact nextX ⟨j + 1, m, y', rfl, by omega, hm, hk', by rw [← hT', hT], ho⟩ (by simp [n1, intOf]; omega)
    have hcu := Sc.uses_ok huk u[j] (List.getElem_mem hj')
    have hstep : ∀ c, u[j] = c → Sc.takesR l (u.drop j) y at_ = Sc.takesR l (c :: u.drop (j + 1)) y at_ := by rintro c rfl; rw [hd]
    have nl := num_len l (at_ + 1)
    have ql := quo_len l (at_ + 2)
    rw [hx]
    rcases hcu with h | h | h | h
    · have hs := hstep _ h
      rw [Sc.takesR, if_pos (by omega), if_pos rfl] at hs
      simp only [h, show ((65 : UInt8).toNat : Int) = 65 from rfl, decide_true, rs]
      rw [ea]
      refine c_eq (number_ret l (at_ + 1) w8 (by omega) hl) ?_
      simp only [numV, ex, fa_s1]
      refine o_store 1 ho rfl (v := .int .i64 ((Sc.num 0 (l.drop (at_ + 1))).1 : Int)) szInt' rfl (by simp [stC]) fun w9 ho => ?_
      exact go { y with a := ((Sc.num 0 (l.drop (at_ + 1))).1 : Nat) } _ _ w9 rfl (by omega) hyk hs ho
    · have hs := hstep _ h
      rw [Sc.takesR, if_pos (by omega), if_neg (by decide), if_pos rfl] at hs
      simp only [h, show ((66 : UInt8).toNat : Int) = 66 from rfl, Int.reduceEq, decide_true, decide_false, rs]
      rw [ea]
      refine c_eq (number_ret l (at_ + 1) w8 (by omega) hl) ?_
      simp only [numV, ex, fa_s2]
      refine o_store 1 ho rfl (v := .int .i64 ((Sc.num 0 (l.drop (at_ + 1))).1 : Int)) szInt' rfl (by simp [stC]) fun w9 ho => ?_
      exact go { y with b := ((Sc.num 0 (l.drop (at_ + 1))).1 : Nat) } _ _ w9 rfl (by omega) hyk hs ho
    · have hs := hstep _ h
      rw [Sc.takesR, if_pos (by omega), if_neg (by decide), if_neg (by decide), if_pos rfl] at hs
      simp only [h, show ((83 : UInt8).toNat : Int) = 83 from rfl, Int.reduceEq, decide_true, decide_false, rs]
      rw [ea]
      refine c_told (quoted_ret l (at_ + 1) w8 (by omega) hl) rfl ho fun w9 ho => ?_
      simp only [quotV, ex, fa_s3, show at_ + 1 + 1 = at_ + 2 from rfl]
      refine o_store 1 ho rfl (v := .string ⟨(Sc.quo l.length (l.drop (at_ + 2))).1.toArray⟩) szStr' rfl (by simp [stC]) fun w9 ho => ?_
      exact go { y with s := (Sc.quo l.length (l.drop (at_ + 2))).1 } (at_ + 2 + (Sc.quo l.length (l.drop (at_ + 2))).2 + 1) _ w9 (by omega) (by omega) hyk hs ho
    · have hs := hstep _ h
      rw [Sc.takesR, if_pos (by omega), if_neg (by decide), if_neg (by decide), if_neg (by decide), if_pos rfl] at hs
      simp only [h, show ((84 : UInt8).toNat : Int) = 84 from rfl, Int.reduceEq, decide_true, decide_false, rs]
      rw [ea]
      refine c_told (quoted_ret l (at_ + 1) w8 (by omega) hl) rfl ho fun w9 ho => ?_
      simp only [quotV, ex, fa_s4, show at_ + 1 + 1 = at_ + 2 from rfl]
      refine o_store 1 ho rfl (v := .string ⟨(Sc.quo l.length (l.drop (at_ + 2))).1.toArray⟩) szStr' rfl (by simp [stC]) fun w9 ho => ?_
      exact go { y with t := (Sc.quo l.length (l.drop (at_ + 2))).1 } (at_ + 2 + (Sc.quo l.length (l.drop (at_ + 2))).2 + 1) _ w9 (by omega) (by omega) hyk hs ho
end Go.Proofs.YtjajlcacbbnodaaGreatDoor
/- The engine's rules for rows that are written to: append, store. -/
namespace Go.Proofs.YtjajlcacbbnodaaGreatDoor
set_option linter.unusedVariables false
set_option linter.unusedSimpArgs false
set_option linter.defProp false
set_option linter.unusedSimpArgs false
set_option linter.unusedVariables false
namespace Eng
open Go.RowKit

/-- A slice of n elements of type T (sz cells each) that reads xs, and may be appended and written to. -/
def Ent.urow (T : TypeId) (sz : Nat) (v : Value) (n : Nat) (xs : List Value) : Ent :=
  ⟨fun k => v.ownBlock = some k, fun w => w.ownsRow 0 T sz v n xs, fun {w w'} h k => by
    refine ⟨h.1, ?_⟩
    rcases h.2 with hn | ⟨g, cap, cur, rfl, hb, hgg, rest⟩
    · exact .inl hn
    · exact .inr ⟨g, cap, cur, rfl, hb, (k g rfl).trans hgg, rest⟩, fun h k hk => (World.ownsRowF.lt (World.ownsRowF_of h) k hk).2⟩
section
variable {S : Nat → Prop} {P : Program} {w : World} {PK : List PanicEntry → World → Prop} {K : Value → World → Prop}
theorem urow_row {T : TypeId} {sz : Nat} {v : Value} {n : Nat} {xs : List Value} (h : (Ent.urow T sz v n xs).is w) : (Ent.row T sz v n xs).is w := World.ownsRowF_of h
theorem Sl.urow {T : TypeId} {sz : Nat} {v : Value} {n : Nat} {xs : List Value} (h : (Ent.urow T sz v n xs).is w) : Sl w v sz n xs := Sl.row (urow_row h)
theorem OwnS.slU {w0 : World} {L : List Ent} (ho : OwnS S w0 w L) (i : Nat) {T : TypeId} {sz : Nat} {v : Value} {n : Nat} {xs : List Value} (hi : L[i]? = some (.urow T sz v n xs)) : Sl w v sz n xs := Sl.urow (ho.at_ i hi)
/-- A row that is no more written to. -/
theorem OwnS.settle {w0 : World} {L : List Ent} (ho : OwnS S w0 w L) (i : Nat) {T : TypeId} {sz : Nat} {v : Value} {n : Nat} {xs : List Value} (hi : L[i]? = some (.urow T sz v n xs)) : OwnS S w0 w (L.set i (.row T sz v n xs)) :=
  ho.turn i hi ⟨Grew.refl _ _, urow_row (ho.at_ i hi), fun _ hk => .inl hk⟩
theorem OwnS.toU {w0 : World} {L : List Ent} {b : Nat} {cs : List Value} {E : TypeId} (ho : OwnS S w0 w (.cells b cs E :: L)) (sz n cap : Nat) (hl : cs.length = cap * sz) (hn : n ≤ cap) (hc : cap ≤ 9223372036854775807) :
    OwnS S w0 w (.urow E sz (.slice (some ⟨b, 0, none⟩) n cap) n (cs.take (n * sz)) :: L) := by
  refine ⟨ho.grew, fun e he => ?_, ?_⟩
  · rcases List.mem_cons.1 he with rfl | he
    · refine ⟨⟨by rw [List.length_take, hl, Nat.min_eq_left (Nat.mul_le_mul_right _ hn)], .inr ⟨b, cap, cs.toArray, rfl, Nat.zero_le _, ho.at_ 0 rfl, hn, by simp only [maxLen]; omega, by simpa using hl, by simp⟩⟩, fun k hk => ?_⟩
      simp only [Ent.urow, Value.ownBlock, Option.some.injEq] at hk
      exact (ho.all (.cells b cs E) (by simp)).2 k hk.symm
    · exact ho.all e (by simp [he])
  · refine .cons (fun f hf k hk => ?_) (List.pairwise_cons.1 ho.apart).2
    simp only [Ent.urow, Value.ownBlock, Option.some.injEq] at hk
    exact (List.pairwise_cons.1 ho.apart).1 f hf k hk.symm
theorem run_append_anyU {T E U : TypeId} {cs : Array Bool} {v v2 : Value} {sz bytes n m : Nat} {xs news : List Value} (ht : P.underlying T = some (.slice E)) (he : elB P E sz bytes = true) (hsz : 0 < sz)
    (hown : w.ownsRow 0 E sz v n xs) (hs : Sl w v2 sz m news) (h1 : ∀ u ∈ news, u.oneCell' = true) (hb : (n + m) * bytes ≤ 140737488355328) (hb2 : n + m ≤ 140737488355328) :
    ∃ v' w', (mB .append #[T, T] U cs #[v, v2]).run P w = .ok (.value v') w' ∧ Turn (.urow E sz v n xs) (.urow E sz v' (n + m) (xs ++ news)) w w' := by
  obtain ⟨v', w', r, t⟩ := run_append_any (P := P) (U := U) (cs := cs) ht he hsz (World.ownsRowF_of hown) hs h1 hb hb2
  refine ⟨v', w', r, t.grew, ?_, t.new⟩
  obtain ⟨i, z, hi, hz, hi1, hi2, hz1⟩ := elB_spec he
  obtain ⟨hl, a, cap, rfl, hn, hc⟩ := hs
  have hmx : n + m ≤ maxLen := by simp only [maxLen]; omega
  cases a with
  | some p =>
    have hh : ∀ j u, news[j]? = some u → w.cell? (p.add j) = some u := by
      intro j u hj
      have hlt : j < news.length := (List.getElem?_eq_some_iff.1 hj).1
      have hm : 0 < m := by
        rcases Nat.eq_zero_or_pos m with h0 | h0
        · subst h0; simp at hl; rw [hl] at hlt; simp at hlt
        · exact h0
      obtain ⟨hsp, hcell⟩ := hc p rfl
      have := hsp hm
      obtain ⟨b, off, spot⟩ := p
      simp only at this hcell
      subst this
      rw [add_none]; exact hcell j u hj
    obtain ⟨v2, w2, r1, r2, r3, r4⟩ := run_append_own (P := P) w 0 T U E i z sz bytes ht hi hz hi1 hi2 hz1 hsz v n xs hown p m cap news hl hh h1 hmx hb (Nat.zero_le _)
    have : (mB .append #[T, T] U cs #[v, .slice (some p) m cap]).run P w = .ok (.value v2) w2 := by simp [mB, builtin, r1]
    rw [this] at r
    cases r
    exact r2
  | none =>
    have h0 := hn rfl
    subst h0
    have hnil : news = [] := List.eq_nil_of_length_eq_zero (by simpa using hl)
    subst hnil
    have : (mB .append #[T, T] U cs #[v, .slice none 0 cap]).run P w = .ok (.value v) w := by
      rcases hown.2 with ⟨rfl, rfl⟩ | ⟨g, cp, cur, rfl, _, _, hnc, _⟩
      · simp [mB, builtin, Builtin.append_, run_underlying ht, sizeOf, typeInfo, hi, Builtin.lenOf, Builtin.firstCells]
      · simp [mB, builtin, Builtin.append_, run_underlying ht, sizeOf, typeInfo, hi, Builtin.lenOf, Builtin.firstCells, hnc, storeCells]
    rw [this] at r
    cases r
    rw [List.append_nil]
    exact hown
/-- append(s, more...), to a row that is written to: the i-th piece. -/
theorem o_appendU {w0 : World} {L : List Ent} (i : Nat) {T E U : TypeId} {cs : Array Bool} {v v2 : Value} {sz bytes n m : Nat} {xs news : List Value} (ht : P.underlying T = some (.slice E)) (he : elB P E sz bytes = true) (hsz : 0 < sz)
    (ho : OwnS S w0 w L) (hi : L[i]? = some (.urow E sz v n xs)) (hs : Sl w v2 sz m news) (h1 : ∀ u ∈ news, u.oneCell' = true) (hb : (n + m) * bytes ≤ 140737488355328) (hb2 : n + m ≤ 140737488355328)
    (k : ∀ v' w', OwnS S w0 w' (L.set i (.urow E sz v' (n + m) (xs ++ news))) → K v' w') : DoX P (mB .append #[T, T] U cs #[v, v2]) w PK K := by
  obtain ⟨v', w', r, t⟩ := run_append_anyU (cs := cs) (U := U) ht he hsz (ho.at_ i hi) hs h1 hb hb2
  exact do_ok r (k _ _ (ho.turn i hi t))
theorem urow_open {E : TypeId} {sz n : Nat} {v : Value} {xs : List Value} (h : (Ent.urow E sz v n xs).is w) (hn : 0 < n) : ∃ g cap, v = .slice (some ⟨g, 0, none⟩) n cap := by
  rcases (show w.ownsRow 0 E sz v n xs from h).2 with ⟨_, h0⟩ | ⟨g, cap, cur, rfl, _⟩
  · omega
  · exact ⟨g, cap, rfl⟩
theorem run_store_in {T : TypeId} {g off : Nat} {cur : Array Value} {E : TypeId} {u : Value} {new : List Value} (hc : u.cells = new.toArray) (hs : (P.info? T).map (·.size) = some new.length) (h1 : ∀ x ∈ new, x.oneCell' = true)
    (hg : w.heap[g]? = some (.cells cur E (0, 0))) (hl : off + new.length ≤ cur.size) :
    (Instr.storeAt T (.pointer (some ⟨g, off, none⟩)) u).run P w = .ok () (w.setRow g (cur.toList.take off ++ new ++ cur.toList.drop (off + new.length)).toArray) := by
  have hst := run_storeCells_at P g off E new 0 cur w hg (by simpa using hl) h1
  obtain ⟨i, hi, h2⟩ := Option.map_eq_some_iff.1 hs
  simp only [Nat.add_zero] at hst
  simp [Instr.storeAt, Instr.sureAddr, storeVar, hc, sizeOf, typeInfo, hi, h2, hst]
/-- A store into a row that is written to: the i-th piece; the cells from off on. -/
theorem o_storeU {w0 : World} {L : List Ent} (i : Nat) {T E : TypeId} {g off n cap sz : Nat} {xs new : List Value} {u : Value} (ho : OwnS S w0 w L) (hi : L[i]? = some (.urow E sz (.slice (some ⟨g, 0, none⟩) n cap) n xs))
    (hc : u.cells = new.toArray) (hs : (P.info? T).map (·.size) = some new.length) (h1 : ∀ x ∈ new, x.oneCell' = true) (hl : off + new.length ≤ n * sz)
    (k : ∀ w', OwnS S w0 w' (L.set i (.urow E sz (.slice (some ⟨g, 0, none⟩) n cap) n (xs.take off ++ new ++ xs.drop (off + new.length)))) → K undef w') : DoX P (mStore T (.pointer (some ⟨g, off, none⟩)) u) w PK K := by
  have hown : w.ownsRow 0 E sz (.slice (some ⟨g, 0, none⟩) n cap) n xs := ho.at_ i hi
  rcases hown.2 with ⟨h0, _⟩ | ⟨g', cap', cur, he, hb, hg, hnc, hcm, hcs, htake⟩
  · cases h0
  cases he
  have hle : n * sz ≤ cur.size := by rw [hcs]; exact Nat.mul_le_mul_right _ hnc
  refine do_skip (mu_run (run_store_in hc hs h1 hg (by omega))) (k _ ?_)
  refine ho.put i hi (w' := w.setRow g _) ⟨rfl, rfl, rfl, by simp [World.setRow], fun k _ hk => setRow_other w g k _ (fun e => hk (by simp [Ent.urow, Value.ownBlock, e]))⟩ _ ?_ (fun k hk => .inl hk)
  have hxl := hown.1
  have hcl : cur.toList.length = cap * sz := by simpa using hcs
  refine ⟨by simp only [List.length_append, List.length_take, List.length_drop]; omega, .inr ⟨g, cap, _, rfl, hb, setRow_heap w g cur _ E (0, 0) hg, hnc, hcm, ?_, ?_⟩⟩
  · simp only [List.size_toArray, List.length_append, List.length_take, List.length_drop]
    omega
  · subst htake
    rw [List.take_take, Nat.min_eq_left (by omega)]
    simp only [List.append_assoc]
    rw [List.take_append, List.take_append, List.take_of_length_le (l := cur.toList.take off) (by simp; omega), List.take_of_length_le (l := new) (by simp; omega)]
    congr 2
    rw [List.length_take, Nat.min_eq_left (by omega), List.drop_take]
    congr 1
    omega
end
end Eng
end Go.Proofs.YtjajlcacbbnodaaGreatDoor
/- Contracts: foliantref55 (Text, Lines). -/
namespace Go.Proofs.YtjajlcacbbnodaaGreatDoor
set_option linter.unusedVariables false
set_option linter.unusedSimpArgs false
set_option linter.defProp false
open Eng Go.RowKit

def Kind64 (x : Sc.Step) : Prop := -9223372036854775808 ≤ x.k ∧ x.k ≤ 9223372036854775807
theorem rstext_ret (l : List Sc.Step) (v : Value) (w : World) (hk : ∀ x ∈ l, Kind64 x) (hs : Sl w v 5 l.length (l.flatMap stC)) (hl : l.length ≤ 1099511627776) : Ret Tryz.prog 30 #[v] w (fun v w' => v = strErrV (Sc.text l) ∧ Below w.heap.size w w') := by
  refine ret_of fun K hK => S_foliantref55_Text_ok ?_
  unfold S_foliantref55_Text
  simp only [sl_len Tryz.underlying44 hs, rs]
  by_cases hbig : (256 : Int) < (l.length : Int)
  · simp only [hbig, decide_true, rs]
    exact hK _ _ ⟨by rw [Sc.text, if_pos (by omega)]; rfl, Below.refl _ _⟩
  simp only [hbig, decide_false, rs]
  rw [Sc.text, if_neg (by omega)] at hK
  refine loop (fun vs w' => ∃ (i : Nat) (acc : List UInt8), vs = [.string ⟨acc.toArray⟩, .int .i64 i] ∧ i ≤ l.length ∧ acc.length ≤ i * 65536 ∧ Sc.textG [] l = Sc.textG acc (l.drop i) ∧ Own w w' [])
    (fun vs _ => l.length - n1 vs) ⟨0, [], rfl, by omega, by simp, rfl, Own.start w⟩ ?_
  rintro vs w2 ⟨i, acc, rfl, hi, hal, hT, ho⟩ _
  simp only [S_foliantref55_Text_0, gd, rs]
  rw [hT] at hK
  by_cases hlt : (i : Int) < (l.length : Int)
  · have hi' : i < l.length := by omega
    simp only [hlt, decide_true, rs]
    rw [List.drop_eq_getElem_cons hi', Sc.textG] at hK hT
    refine st_ia (ho.oldSl hs) hi' (by omega) ?_
    refine o_sta ho fun b6 w3 ho => ?_
    refine st_set 0 l[i] ho rfl fun w4 ho => ?_
    have ho : Own w w4 [stE b6 l[i]] := ho
    rw [st_v ho 0 rfl]
    have hkk := hk l[i] (List.getElem_mem hi')
    refine c_told (rsline_ret l[i] w4 hkk.1 hkk.2) rfl ho fun w5 ho => ?_
    have hsh := line_short l[i]
    generalize Sc.line l[i] = ln at *
    simp only [strErrV, ex, rs]
    by_cases he : ln.2 = 0
    case neg =>
      simp only [ne_eq, he, not_false_eq_true, decide_true, rs]
      rw [if_pos he] at hK
      exact hK _ _ ⟨rfl, ho.done⟩
    simp only [ne_eq, he, not_true, decide_false, rs]
    rw [if_neg (by simp [he])] at hT
    refine do_eq (run_s_add (a := ln.1) (b := [10]) (by simp; omega)) |>.mpr ?_
    rw [s_add (by simp; omega), wrap64_id (by omega) (by omega)]
    exact nextX ⟨i + 1, _, rfl, by omega, by simp; omega, by rw [hT, List.append_assoc], ho.tail⟩ (by simp [n1, intOf]; omega)
  · simp only [hlt, decide_false, rs]
    rw [List.drop_of_length_le (by omega), Sc.textG] at hK
    exact hK _ _ ⟨rfl, ho.done⟩
theorem lines_snoc : ∀ (s : List UInt8) (c : UInt8), Sc.lines (s ++ [c]) = if c = 10 then Sc.lines s ++ [[]] else (Sc.lines s).dropLast ++ [(Sc.lines s).getLastD [] ++ [c]]
  | [], c => by
    rw [List.nil_append, Sc.lines, Sc.lines]
    split <;> rfl
  | d :: s, c => by
    have ih := lines_snoc s c
    have hne := Sc.lines_ne s
    rw [List.cons_append, Sc.lines, Sc.lines, ih]
    obtain ⟨a, r, hr⟩ : ∃ a r, Sc.lines s = a :: r := by
      cases h : Sc.lines s with
      | nil => exact absurd h hne
      | cons a r => exact ⟨a, r, rfl⟩
    rw [hr]
    by_cases hd : d = 10
    · simp only [hd, if_true]
      by_cases hc : c = 10
      · simp [hc]
      · simp [hc, List.getLastD]
    · simp only [hd, if_false]
      by_cases hc : c = 10
      · simp [hc]
      · simp only [hc, if_false]
        cases r with
        | nil => rfl
        | cons b r => simp [List.getLastD]
theorem lines_last_len : ∀ s : List UInt8, ((Sc.lines s).getLastD []).length ≤ s.length ∧ (Sc.lines s).length ≤ s.length + 1
  | [] => by simp [Sc.lines]
  | c :: s => by
    obtain ⟨h1, h2⟩ := lines_last_len s
    have hne := Sc.lines_ne s
    rw [Sc.lines]
    obtain ⟨a, r, hr⟩ : ∃ a r, Sc.lines s = a :: r := by
      cases h : Sc.lines s with
      | nil => exact absurd h hne
      | cons a r => exact ⟨a, r, rfl⟩
    rw [hr] at h1 h2 ⊢
    split
    · simp only [List.length_cons, List.getLastD_cons] at h1 h2 ⊢
      omega
    · cases r with
      | nil => simp at h1 h2 ⊢; omega
      | cons b r => simp only [List.length_cons, List.getLastD_cons] at h1 h2 ⊢; omega
abbrev StrU (v : Value) (l : List (List UInt8)) : Ent := .urow 9 1 v l.length (strsV l)
theorem strsV_app (a b : List (List UInt8)) : strsV (a ++ b) = strsV a ++ strsV b := by simp [strsV]
theorem rlines_ret (s : List UInt8) (w : World) (hs : s.length ≤ 1099511627776) : Ret Tryz.prog 91 #[.string ⟨s.toArray⟩] w (fun v w' => Own w w' [StrU v (Sc.lines s)]) := by
  refine ret_of fun K hK => S_foliantref55_Lines_ok ?_
  unfold S_foliantref55_Lines
  refine o_new (fun b => .slice (some ⟨b, 0, none⟩) 1 1) [.string ⟨#[]⟩] 9 (fun _ => by kernel_rfl) (Own.start w) fun b w1 ho => ?_
  have ho := ho.toU 1 1 1 (by rfl) (by omega) (by omega)
  refine loop (fun vs w' => ∃ (i : Nat) (v : Value), vs = [v, .int .i64 i] ∧ i ≤ s.length ∧ Own w w' [StrU v (Sc.lines (s.take i))])
    (fun vs _ => s.length - n1 vs) ⟨0, _, rfl, by omega, ho⟩ ?_
  rintro vs w2 ⟨i, v, rfl, hi, ho⟩ _
  simp only [S_foliantref55_Lines_0, gd, s_len Tryz.underlying9, rs]
  have hll := lines_last_len (s.take i)
  rw [List.length_take, Nat.min_eq_left hi] at hll
  by_cases hlt : (i : Int) < (s.length : Int)
  · have hi' : i < s.length := by omega
    have hx : ∀ {PK K}, DoX Tryz.prog (mIx 9 (.string ⟨s.toArray⟩) (.int .i64 (i : Int))) w2 PK K = K (.int .u8 (s[i].toNat : Int)) w2 := s_ix (c := s[i]) Tryz.underlying9 (Int.natCast_nonneg i) (by simp [hi'])
    have hsn := lines_snoc (s.take i) s[i]
    rw [← List.take_succ_eq_append_getElem hi'] at hsn
    simp only [hlt, decide_true, rs, hx]
    refine join fun J hJ => ?_
    have fin : ∀ (v' : Value) (W : World), Own w W [StrU v' (Sc.lines (s.take (i + 1)))] → J [v'] W := by
      intro v' W ho
      refine hJ _ _ fun _ => ?_
      simp only [S_foliantref55_Lines_1, gd, rs]
      rw [wrap64_id (by omega) (by omega)]
      exact nextX ⟨i + 1, v', rfl, by omega, ho⟩ (by simp [n1, intOf]; omega)
    rw [hsn] at fin
    by_cases h10 : s[i] = 10
    · have e : (s[i].toNat : Int) = 10 := by rw [h10]; rfl
      simp only [e, decide_true, rs]
      rw [if_pos h10] at fin
      refine o_new (fun b => .slice (some ⟨b, 0, none⟩) 1 1) [.string ⟨#[]⟩] 9 (fun _ => by kernel_rfl) ho fun nb w4 h4 => ?_
      refine o_appendU 1 Tryz.underlying22 (show elB Tryz.prog 9 1 16 = true by kernel_rfl) (by decide) h4 rfl (h4.sl 0 rfl 1 1 1 rfl) (fun x hx => by rw [List.mem_singleton] at hx; subst hx; rfl) (by omega) (by omega) fun v' w5 h5 => ?_
      refine fin v' w5 ?_
      have h5 := h5.tail
      rw [StrU, strsV_app, List.length_append]
      exact h5
    · have e : ¬ (s[i].toNat : Int) = 10 := fun h => h10 (UInt8.toNat_inj.1 (by have : (10 : UInt8).toNat = 10 := rfl; omega))
      simp only [e, decide_false, rs]
      rw [if_neg h10] at fin
      have hne := Sc.lines_ne (s.take i)
      generalize Sc.lines (s.take i) = ls at *
      have hpos : 0 < ls.length := List.length_pos_iff.2 hne
      obtain ⟨g, cap, rfl⟩ := urow_open (ho.at_ 0 rfl) hpos
      have hlast : ls[ls.length - 1]'(by omega) = ls.getLastD [] := by
        rw [List.getLastD_eq_getLast?, List.getLast?_eq_getElem?, List.getElem?_eq_getElem (by omega)]; rfl
      have hia : ∀ W, (mIA 22 (.slice (some ⟨g, 0, none⟩) ls.length cap) (.int .i64 ((ls.length : Int) - 1))).run Tryz.prog W = .ok (.value (.pointer (some ⟨g, ls.length - 1, none⟩))) W := by
        intro W
        rw [run_ia Tryz.underlying22 (show _ = some 1 by kernel_rfl) (by omega) (by omega)]
        rw [show 0 + ((ls.length : Int) - 1).toNat * 1 = ls.length - 1 by omega]
      refine quiet (q_at _ (fun W hW => run_sl_len Tryz.underlying22 ((ho.grow hW).slU 0 rfl)) ?_)
      refine q_do _ (fun _ => r_sub) ?_
      rw [wrap64_id (by omega) (by omega)]
      refine q_do _ hia ?_
      refine q_at (.string ⟨(ls.getLastD []).toArray⟩) (fun W hW => run_load_cell nStr ?_) ?_
      · have hsl := (ho.grow hW).slU 0 rfl
        obtain ⟨b', off, cap', he, hc⟩ := sl_open hsl hpos
        cases he
        have := hc (ls.length - 1) _ (strsV_get (show ls.length - 1 < ls.length by omega))
        rw [hlast] at this
        simpa using this
      refine q_add ?_
      rw [wrap64_id (by omega) (by omega)]
      refine q_do _ (fun _ => run_s_slice Tryz.underlying9 (by omega) (by omega) (by omega)) ?_
      have e1 : (s.drop (i : Int).toNat).take (((i : Int) + 1).toNat - (i : Int).toNat) = [s[i]] := by
        rw [show ((i : Int) + 1).toNat - (i : Int).toNat = 1 by omega, Int.toNat_natCast, List.drop_eq_getElem_cons hi']; rfl
      rw [e1]
      refine q_do _ (fun _ => run_s_add (by rw [List.length_singleton]; omega)) ?_
      refine q_do _ hia ?_
      intro w3 hW
      have ho := ho.grow hW
      refine o_storeU 0 (T := 9) (new := [.string ⟨(ls.getLastD [] ++ [s[i]]).toArray⟩]) ho rfl rfl (by kernel_rfl) (fun x hx => by rw [List.mem_singleton] at hx; subst hx; rfl) (by simp; omega) fun w4 ho => ?_
      refine fin _ w4 ?_
      have e2 : (strsV ls).take (ls.length - 1) ++ [.string ⟨(ls.getLastD [] ++ [s[i]]).toArray⟩] ++ (strsV ls).drop (ls.length - 1 + [Value.string ⟨(ls.getLastD [] ++ [s[i]]).toArray⟩].length) = strsV (ls.dropLast ++ [ls.getLastD [] ++ [s[i]]]) := by
        rw [List.drop_of_length_le (by simp [strsV]; omega), List.append_nil, strsV_app, List.dropLast_eq_take]
        simp [strsV, strV]
      rw [e2] at ho
      have e3 : (ls.dropLast ++ [ls.getLastD [] ++ [s[i]]]).length = ls.length := by simp; omega
      rw [StrU, e3]
      exact ho
  · simp only [hlt, decide_false, rs]
    rw [List.take_of_length_le (by omega)] at ho
    exact hK _ _ ho
end Go.Proofs.YtjajlcacbbnodaaGreatDoor
/- Contracts: foliantref55 (Read), script (Read). -/
namespace Go.Proofs.YtjajlcacbbnodaaGreatDoor
set_option linter.unusedVariables false
set_option linter.unusedSimpArgs false
set_option linter.defProp false
open Eng Go.RowKit

def SRow (v : Value) (l : List Sc.Step) : Ent := .row 43 5 v l.length (l.flatMap stC)
theorem nSlS : notAgg Tryz.prog 44 = true := by kernel_rfl
theorem srow_sl {S : Nat → Prop} {w0 w : World} {L : List Ent} {v : Value} {l : List Sc.Step} (i : Nat) (ho : OwnS S w0 w L) (hi : L[i]? = some (SRow v l)) : Sl w v 5 l.length (l.flatMap stC) := ho.slRow i hi
theorem srow_one {S : Nat → Prop} {w0 w : World} {L : List Ent} {v : Value} {l : List Sc.Step} (i : Nat) (ho : OwnS S w0 w L) (hi : L[i]? = some (SRow v l)) : v.oneCell' = true := by
  obtain ⟨_, a, cap, rfl, _⟩ := srow_sl i ho hi
  rfl
/-- append(l, x): the row is the i-th piece. -/
theorem o_appSt {S : Nat → Prop} {w0 w : World} {L : List Ent} {PK : List PanicEntry → World → Prop} {K : Value → World → Prop} (i : Nat) {v : Value} {l : List Sc.Step} {x : Sc.Step} {cs : Array Bool} {PK2 : List PanicEntry → World → Prop} (ho : OwnS S w0 w L) (hi : L[i]? = some (SRow v l)) (hb : l.length ≤ 1099511627776)
    (k : ∀ v' w', OwnS S w0 w' (L.set i (SRow v' (l ++ [x]))) → K v' w') :
    DoX Tryz.prog (mBuildS 44 1 #[(0, stV x)]) w PK fun t w => DoX Tryz.prog (mB .append #[44, 44] 44 cs #[v, t]) w PK2 K := by
  refine o_new (fun b => .slice (some ⟨b, 0, none⟩) 1 1) (stC x) 43 (fun _ => by kernel_rfl) ho fun nb w4 h4 => ?_
  refine o_append (i + 1) Tryz.underlying44 (show elB Tryz.prog 43 5 56 = true by kernel_rfl) (by decide) h4 (by rw [List.getElem?_cons_succ]; exact hi) (h4.sl 0 rfl 5 1 1 rfl) (stC_one x) (by omega) (by omega) fun v' w5 h5 => ?_
  refine k v' w5 ?_
  have e : SRow v' (l ++ [x]) = .row 43 5 v' (l.length + 1) (l.flatMap stC ++ stC x) := by
    rw [SRow, List.length_append, List.flatMap_append]; simp
  rw [e]
  exact h5.tail
theorem readG_skip {n : Nat} {acc : List Sc.Step} {l : List UInt8} {r : List (List UInt8)} (h : l = [] ∨ l.head? = some 35) : Sc.readG n acc (l :: r) = Sc.readG (n + 1) acc r := by rw [Sc.readG, if_pos h]
theorem lines_bound (s : List UInt8) : ∀ x ∈ Sc.lines s, x.length ≤ s.length := by
  induction s with
  | nil => intro x hx; simp [Sc.lines] at hx; simp [hx]
  | cons c s ih =>
    intro x hx
    obtain ⟨a, r, hr⟩ : ∃ a r, Sc.lines s = a :: r := by
      cases h : Sc.lines s with
      | nil => exact absurd h (Sc.lines_ne s)
      | cons a r => exact ⟨a, r, rfl⟩
    rw [hr] at ih
    rw [Sc.lines, hr] at hx
    split at hx
    · rcases List.mem_cons.1 hx with rfl | hx
      · simp
      · have := ih x hx; simp only [List.length_cons]; omega
    · simp only at hx
      rcases List.mem_cons.1 hx with rfl | hx
      · have := ih a (by simp); simp only [List.length_cons]; omega
      · have := ih x (by simp [hx]); simp only [List.length_cons]; omega
theorem rsread_ret (s : List UInt8) (w : World) (hs : s.length ≤ 1099511627776) : Ret Tryz.prog 32 #[.string ⟨s.toArray⟩] w (fun r w' => ∃ v, r = .tuple #[v, fltV (Sc.read s).2] ∧ Own w w' [SRow v (Sc.read s).1]) := by
  refine ret_of fun K hK => S_foliantref55_Read_ok ?_
  unfold S_foliantref55_Read
  refine o_flt (Own.start w) fun b3 w1 ho => ?_
  simp only [s_len Tryz.underlying9, rs]
  have nilOut : ∀ (W : World) (L : List Ent) (f g : Int × Int), Own w W (L ++ [fltE b3 f]) → Sc.read s = ([], g) → ∀ {PK}, DoX Tryz.prog (mStore 36 (.pointer (some ⟨b3, 0, none⟩)) (fltV g)) W PK fun _ w => RetX Tryz.prog [.val (.slice none 0 0), .cell (.pointer (some ⟨b3, 0, none⟩)) 36] w K := by
    intro W L f g ho hg PK
    have ho : Own w W (fltE b3 f :: L) := ho.perm (List.perm_append_comm.trans (List.Perm.refl _))
    refine flt_put (g := g) 0 ho rfl fun W2 ho => ?_
    refine ret_v2 rv_val (rv_cell (ho.agg 0 rfl aggFlt)) (hK _ _ ⟨.slice none 0 0, ?_⟩)
    rw [hg]
    exact ⟨rfl, (ho.sub (List.nil_sublist _)).nilRow _ 5⟩
  by_cases hbig : (1048576 : Int) < (s.length : Int)
  · simp only [hbig, decide_true, i_t, m_flt1]
    exact nilOut w1 [] _ (0, 5) ho (by rw [Sc.read, if_pos (by omega)])
  simp only [hbig, decide_false, i_f]
  refine c_ret (rlines_ret s w1 hs) ?_
  intro v14 w2 hn
  have ho := ho.join hn
  have ho : Own w w2 [StrU v14 (Sc.lines s), fltE b3 (0, 0)] := ho
  rw [sl_len Tryz.underlying22 (ho.slU 0 rfl)]
  have hR : Sc.read s = (match Sc.readG 0 [] (Sc.lines s) with
    | .inl l => (l, (0, 0))
    | .inr f => ([], f)) := by rw [Sc.read, if_neg (by omega)]; rfl
  have hll := (lines_last_len s).2
  have hlb := lines_bound s
  generalize Sc.lines s = ls at *
  refine loop (fun vs w' => ∃ (i : Nat) (u v : Value) (acc : List Sc.Step), vs = [u, v, .int .i64 i] ∧ i ≤ ls.length ∧ acc.length ≤ 256 ∧ Sc.readG 0 [] ls = Sc.readG i acc (ls.drop i) ∧ Own w w' [SRow v acc, StrU v14 ls, fltE b3 (0, 0)])
    (fun vs _ => ls.length - n2 vs) ⟨0, _, _, [], rfl, by omega, by simp, rfl, ho.nilRow _ 5⟩ ?_
  rintro vs w3 ⟨i, u, v, acc, rfl, hi, hal, hT, ho⟩ _
  simp only [S_foliantref55_Read_0, gd, rs]
  by_cases hlt : (i : Int) < (ls.length : Int)
  · have hi' : i < ls.length := by omega
    simp only [hlt, decide_true, i_t]
    rw [List.drop_eq_getElem_cons hi'] at hT
    have hxl := hlb ls[i] (List.getElem_mem hi')
    generalize hx : ls[i] = x at *
    refine join fun J hJ => ?_
    refine sl_ia1 (.string ⟨x.toArray⟩) Tryz.underlying22 (by kernel_rfl) (ho.slU 1 rfl) (by omega) (by rw [Int.toNat_natCast, ← hx]; exact strsV_get hi') fun q hq => ?_
    rw [l_cell nStr hq]
    have fin : ∀ (v' : Value) (acc' : List Sc.Step) (W : World), acc'.length ≤ 256 → Sc.readG i acc (x :: ls.drop (i + 1)) = Sc.readG (i + 1) acc' (ls.drop (i + 1)) → Own w W [SRow v' acc', StrU v14 ls, fltE b3 (0, 0)] → J [u, v'] W := by
      intro v' acc' W ha hg ho
      refine hJ _ _ fun _ => ?_
      simp only [S_foliantref55_Read_1, gd, rs]
      rw [wrap64_id (by omega) (by omega)]
      exact nextX ⟨i + 1, u, v', acc', rfl, by omega, ha, by rw [hT, hg], ho⟩ (by simp [n2, intOf]; omega)
    have e0 : ∀ {xo yo : Operand} {w : World} {PK K}, DoX Tryz.prog (mEq .eql 9 xo yo (.string ⟨x.toArray⟩) (.string ⟨#[]⟩)) w PK K = K (.bool (decide (x = []))) w := e_str (b := [])
    rw [e0]
    cases x with
    | nil =>
      simp only [decide_true, rs, g_un]
      exact fin v acc w3 hal (readG_skip (.inl rfl)) ho
    | cons c t =>
      have hx0 : ∀ {PK K}, DoX Tryz.prog (mIx 9 (.string ⟨(c :: t).toArray⟩) (.int .i64 0)) w3 PK K = K (.int .u8 (c.toNat : Int)) w3 := s_ix (c := c) Tryz.underlying9 (by decide) rfl
      simp only [reduceCtorEq, decide_false, rs, hx0]
      by_cases h35 : c = 35
      · have e : (c.toNat : Int) = 35 := by rw [h35]; rfl
        simp only [e, decide_true, rs]
        exact fin v acc w3 hal (readG_skip (.inr (by rw [h35]; rfl))) ho
      have e : ¬ (c.toNat : Int) = 35 := fun h => h35 (UInt8.toNat_inj.1 (by have : (35 : UInt8).toNat = 35 := rfl; omega))
      have hns : ¬ ((c :: t : List UInt8) = [] ∨ (c :: t).head? = some 35) := by simp [h35]
      simp only [e, decide_false, rs, sl_len Tryz.underlying44 (srow_sl 0 ho rfl)]
      by_cases h256 : (acc.length : Int) = 256
      · simp only [h256, decide_true, rs]
        rw [wrap64_id (by omega) (by omega), m_flt2]
        refine nilOut w3 [SRow v acc, StrU v14 ls] _ _ ho ?_
        rw [hR, hT, Sc.readG, if_neg hns, if_pos (by omega)]
      simp only [h256, decide_false, rs]
      refine c_told (rparse_ret (c :: t) w3 (by omega)) rfl ho fun w4 ho => ?_
      simp only [parV, ex]
      refine o_sta ho fun b7 w5 ho => ?_
      refine st_set 0 (Sc.parse (c :: t)).1 ho rfl fun w6 ho => ?_
      have ho : Own w w6 [stE b7 (Sc.parse (c :: t)).1, SRow v acc, StrU v14 ls, fltE b3 (0, 0)] := ho
      generalize hp : Sc.parse (c :: t) = p at *
      simp only [rs]
      by_cases hp2 : p.2 = 0
      case neg =>
        simp only [ne_eq, hp2, not_false_eq_true, decide_true, rs]
        rw [wrap64_id (by omega) (by omega), m_flt2]
        refine nilOut w6 [stE b7 p.1, SRow v acc, StrU v14 ls] _ _ ho ?_
        rw [hR, hT, Sc.readG, if_neg hns, if_neg (by omega), hp, if_pos hp2]
      simp only [ne_eq, hp2, not_true, decide_false, rs, st_v ho 0 rfl]
      refine o_appSt 1 ho rfl (by omega) fun v' w7 ho => ?_
      refine fin v' (acc ++ [p.1]) w7 (by simp; omega) ?_ ho.tail
      rw [Sc.readG, if_neg hns, if_neg (by omega), hp, if_neg (by simp [hp2])]
  · simp only [hlt, decide_false, i_f, m_flt0]
    rw [List.drop_of_length_le (by omega), Sc.readG] at hT
    refine flt_put (g := (0, 0)) 2 ho rfl fun w4 ho => ?_
    have ho : Own w w4 [SRow v acc, StrU v14 ls, fltE b3 (0, 0)] := ho
    refine ret_v2 rv_val (rv_cell (ho.agg 2 rfl aggFlt)) (hK _ _ ⟨v, ?_⟩)
    rw [hR, hT]
    exact ⟨rfl, ho.sub (.cons_cons _ (List.nil_sublist _))⟩
def slcS (b : Nat) (v : Value) : Ent := .cells b [v] 44
theorem sread_ret (s : List UInt8) (w : World) (ht : Tb w) (hsp : Sp w) (hs : s.length ≤ 1099511627776) : Ret Tryz.prog 31 #[.string ⟨s.toArray⟩] w (fun r w' => ∃ v, r = .tuple #[v, fltV (Sc.read s).2] ∧ Own w w' [SRow v (Sc.read s).1]) := by
  refine ret_of fun K hK => S_script_Read_ok ?_
  unfold S_script_Read
  refine o_new (fun b => .pointer (some ⟨b, 0, none⟩)) [.slice none 0 0] 44 (fun _ => by kernel_rfl) (Own.start w) fun b2 w1 ho => ?_
  refine o_flt ho fun b3' w2 ho => ?_
  simp only [s_len Tryz.underlying9, rs]
  by_cases hbig : (1048576 : Int) < (s.length : Int)
  · simp only [hbig, decide_true, i_t, m_flt1]
    refine o_store 1 ho rfl (by kernel_rfl) rfl (by simp) fun W3 ho => ?_
    refine flt_put (g := (0, 5)) 0 ho rfl fun W4 ho => ?_
    refine ret_v2 (rv_cell (ho.fld 1 rfl 0 rfl nSlS)) (rv_cell (ho.agg 0 rfl aggFlt)) (hK _ _ ⟨.slice none 0 0, ?_⟩)
    rw [show Sc.read s = ([], (0, 5)) by rw [Sc.read, if_pos (by omega)]]
    exact ⟨rfl, (ho.sub (List.nil_sublist _)).nilRow _ 5⟩
  simp only [hbig, decide_false, i_f]
  have ho := ho.nilRow 43 5
  refine o_new (fun b => .pointer (some ⟨b, 0, none⟩)) [.slice none 0 0] 44 (fun _ => by kernel_rfl) ho fun b4' w3 ho => ?_
  refine o_new (fun b => .pointer (some ⟨b, 0, none⟩)) [.int .i64 0] 3 (fun _ => by kernel_rfl) ho fun bn w4 ho => ?_
  refine o_store 0 ho rfl szInt' rfl (by simp) fun w5 ho => ?_
  let M (v : Value) (l : List Sc.Step) (n : Int) (u : Value) (g : Int × Int) : List Ent := [intE bn n, slcS b4' v, SRow v l, fltE b3' g, slcS b2 u]
  have ho : Own w w5 (M (.slice none 0 0) [] 0 (.slice none 0 0) (0, 0)) := ho
  refine c_ret (splitSeq_ret s w5) ?_
  rintro _ w6 ⟨b3, b4, b5, rfl, hn⟩
  have ho := ho.join hn
  have hR : Sc.read s = (match Sc.readG 0 [] (Sc.lines s) with
    | .inl l => (l, (0, 0))
    | .inr f => ([], f)) := by rw [Sc.read, if_neg (by omega)]; rfl
  have hlb := lines_bound s
  have hll := (lines_last_len s).2
  -- the results are read
  have fin : ∀ (df : Nat) (v u : Value) (l : List Sc.Step) (n : Int) (g : Int × Int) (X : List Ent) (W : World), Own w W (.obj df (.deferred (some [])) :: (M v l n u g ++ X)) → ((u = v ∧ Sc.read s = (l, g)) ∨ (u = .slice none 0 0 ∧ Sc.read s = ([], g))) →
      LeaveM Tryz.prog [.cell (.pointer (some ⟨b2, 0, none⟩)) 44, .cell (.pointer (some ⟨b3', 0, none⟩)) 36] K [(mkD df)] .returning W := by
    intro df v u l n g X W ho hr
    refine leave1 0 ho rfl fun W2 ho => ?_
    refine ret_v2 (rv_cell (ho.fld 5 rfl 0 rfl nSlS)) (rv_cell (ho.agg 4 rfl aggFlt)) (hK _ _ ⟨u, ?_⟩)
    rcases hr with ⟨rfl, hr⟩ | ⟨rfl, hr⟩
    · rw [hr]; exact ⟨rfl, ho.sub (.cons _ (.cons _ (.cons _ (.cons_cons _ (List.nil_sublist _)))))⟩
    · rw [hr]; exact ⟨rfl, (ho.sub (List.nil_sublist _)).nilRow _ 5⟩
  refine range ho (by kernel_rfl) fun L0 df lb w7 ho hy => ?_
  refine split_seq s b3 b4 b5 hs NoB w w7 L0 lb df (M (.slice none 0 0) [] 0 (.slice none 0 0) (0, 0)) (fun k M' => ∃ v l, M' = M v l (k : Nat) (.slice none 0 0) (0, 0) ∧ l.length ≤ 256 ∧ k ≤ (Sc.lines s).length ∧ Sc.readG 0 [] (Sc.lines s) = Sc.readG k l ((Sc.lines s).drop k)) _ (fun _ _ _ => trivial) ?_ ⟨_, _, rfl, by simp, by omega, rfl⟩ ?_ ?_
  · refine ho.perm ?_
    exact List.Perm.cons _ (List.Perm.cons _ List.perm_append_comm)
  · rintro k v0 M' X W hk ⟨v, l, rfl, hll', hkl, hT⟩ ho
    have hkl' : k < (Sc.lines s).length := by have := (List.getElem?_eq_some_iff.1 hk).1; simpa [strsV] using this
    have hv0 : v0 = .string ⟨((Sc.lines s)[k]).toArray⟩ := by
      have := strsV_get hkl'
      rw [hk] at this; exact Option.some.inj this
    subst hv0
    rw [List.drop_eq_getElem_cons hkl'] at hT
    have hxl := hlb (Sc.lines s)[k] (List.getElem_mem hkl')
    generalize (Sc.lines s)[k] = x at *
    have key : ∀ R : Value → World → Prop,
        (∀ (v' : Value) (l' : List Sc.Step) (W6 : World), l'.length ≤ 256 → Sc.readG k l (x :: (Sc.lines s).drop (k + 1)) = Sc.readG (k + 1) l' ((Sc.lines s).drop (k + 1)) → Own w W6 (loopE L0 lb df ++ (M v' l' ((k + 1 : Nat) : Int) (.slice none 0 0) (0, 0) ++ X)) → R (.bool true) W6) →
        (∀ (W6 : World) (Y : List Ent) (g : Int × Int), Sc.readG k l (x :: (Sc.lines s).drop (k + 1)) = .inr g → Own w W6 (.obj lb (lp L0 .done (some .ret)) :: .obj df (.deferred (some [])) :: (M v l ((k + 1 : Nat) : Int) (.slice none 0 0) g ++ Y)) → R (.bool false) W6) → Yld Tryz.prog lb [.string ⟨x.toArray⟩] W R := by
      intro R hR1 hR2
      refine hy _ W _ (ho.at_ 0 rfl) rfl ?_
      refine o_beg 0 ho rfl fun W3 ho => ?_
      rw [l_cell nInt (ho.cell 2 rfl 0 rfl)]
      simp only [rs, gd]
      rw [wrap64_id (by omega) (by omega), show (k : Int) + 1 = ((k + 1 : Nat) : Int) by omega]
      refine o_store 2 ho rfl szInt' rfl (by simp) fun W4 ho => ?_
      have ho : Own w W4 (.obj lb (lp L0 .busy none) :: .obj df (.deferred (some [])) :: (M v l ((k + 1 : Nat) : Int) (.slice none 0 0) (0, 0) ++ X)) := ho
      cases x with
      | nil =>
        simp only [decide_true, rs, g_un]
        exact o_end 0 ho rfl fun W5 ho => hR1 v l W5 hll' (readG_skip (.inl rfl)) ho
      | cons c t =>
        have hx0 : ∀ {PK K}, DoX Tryz.prog (mIx 9 (.string ⟨(c :: t).toArray⟩) (.int .i64 0)) W4 PK K = K (.int .u8 (c.toNat : Int)) W4 := s_ix (c := c) Tryz.underlying9 (by decide) rfl
        simp only [reduceCtorEq, decide_false, rs, hx0]
        by_cases h35 : c = 35
        · have e : (c.toNat : Int) = 35 := by rw [h35]; rfl
          simp only [e, decide_true, rs]
          exact o_end 0 ho rfl fun W5 ho => hR1 v l W5 hll' (readG_skip (.inr (by rw [h35]; rfl))) ho
        have e : ¬ (c.toNat : Int) = 35 := fun h => h35 (UInt8.toNat_inj.1 (by have : (35 : UInt8).toNat = 35 := rfl; omega))
        have hns : ¬ ((c :: t : List UInt8) = [] ∨ (c :: t).head? = some 35) := by simp [h35]
        simp only [e, decide_false, rs, l_cell nSlS (ho.cell 3 rfl 0 rfl), sl_len Tryz.underlying44 (srow_sl 4 ho rfl)]
        by_cases h256 : (l.length : Int) = 256
        · simp only [h256, decide_true, rs]
          refine draw ?_
          have ho := ho.drew
          have hg : Sc.readG k l ((c :: t) :: (Sc.lines s).drop (k + 1)) = .inr (((k + 1 : Nat) : Int), 6) := by
            rw [Sc.readG, if_neg hns, if_pos (by omega)]; rfl
          have hout : ∀ W5, Own w W5 (.obj lb (lp L0 .busy none) :: .obj df (.deferred (some [])) :: (M v l ((k + 1 : Nat) : Int) (.slice none 0 0) (((k + 1 : Nat) : Int), 6) ++ X)) → S_script_Read_0 lb R W5 := by
            intro W5 ho
            unfold S_script_Read_0
            exact o_end 0 ho rfl fun W6 ho => hR2 W6 _ _ hg ho
          have ho : Own w _ (.obj lb (lp L0 .busy none) :: .obj df (.deferred (some [])) :: (M v l ((k + 1 : Nat) : Int) (.slice none 0 0) (0, 0) ++ X)) := ho
          repeat' first
            | exact hout _ ho
            | refine And.intro ?_ ?_
            | rw [l_cell nInt (ho.cell 2 rfl 0 rfl)]
            | rw [m_flt2]
            | refine o_store (off := 0) (T := 44) (b := b2) 6 ho rfl (by kernel_rfl) rfl (by simp) fun W5 ho => ?_
            | refine flt_put (b := b3') (g := (((k + 1 : Nat) : Int), 6)) 5 ho rfl fun W5 ho => ?_
        simp only [h256, decide_false, rs]
        have ht4 : Tb W4 := ht.own ho
        refine c_told (sparse_ret (c :: t) W4 (ht.own ho) (hsp.own ho) (by omega)) rfl ho fun w8 ho => ?_
        simp only [parV, ex]
        refine o_sta ho fun b7 w9 ho => ?_
        refine st_set 0 (Sc.parse (c :: t)).1 ho rfl fun w10 ho => ?_
        have ho : Own w w10 (stE b7 (Sc.parse (c :: t)).1 :: .obj lb (lp L0 .busy none) :: .obj df (.deferred (some [])) :: (M v l ((k + 1 : Nat) : Int) (.slice none 0 0) (0, 0) ++ X)) := ho
        generalize hp : Sc.parse (c :: t) = p at *
        simp only [rs]
        by_cases hp2 : p.2 = 0
        case neg =>
          simp only [ne_eq, hp2, not_false_eq_true, decide_true, rs]
          refine draw ?_
          have ho := ho.tail.drew
          have hg : Sc.readG k l ((c :: t) :: (Sc.lines s).drop (k + 1)) = .inr (((k + 1 : Nat) : Int), p.2) := by
            rw [Sc.readG, if_neg hns, if_neg (by omega), hp, if_pos hp2]; rfl
          have hout : ∀ W5, Own w W5 (.obj lb (lp L0 .busy none) :: .obj df (.deferred (some [])) :: (M v l ((k + 1 : Nat) : Int) (.slice none 0 0) (((k + 1 : Nat) : Int), p.2) ++ X)) → S_script_Read_1 lb R W5 := by
            intro W5 ho
            unfold S_script_Read_1
            exact o_end 0 ho rfl fun W6 ho => hR2 W6 _ _ hg ho
          have ho : Own w _ (.obj lb (lp L0 .busy none) :: .obj df (.deferred (some [])) :: (M v l ((k + 1 : Nat) : Int) (.slice none 0 0) (0, 0) ++ X)) := ho
          repeat' first
            | exact hout _ ho
            | refine And.intro ?_ ?_
            | rw [l_cell nInt (ho.cell 2 rfl 0 rfl)]
            | rw [m_flt2]
            | refine o_store (off := 0) (T := 44) (b := b2) 6 ho rfl (by kernel_rfl) rfl (by simp) fun W5 ho => ?_
            | refine flt_put (b := b3') (g := (((k + 1 : Nat) : Int), p.2)) 5 ho rfl fun W5 ho => ?_
        simp only [ne_eq, hp2, not_true, decide_false, rs, l_cell nSlS (ho.cell 4 rfl 0 rfl), st_v ho 0 rfl]
        refine o_appSt 5 ho rfl (by omega) fun v' w11 ho => ?_
        refine o_store 4 ho rfl (by kernel_rfl) (srow_one 5 ho rfl) (by simp) fun w12 ho => ?_
        refine o_end 1 ho rfl fun w13 ho => hR1 v' (l ++ [p.1]) w13 (by simp; omega) ?_ ho.tail
        rw [Sc.readG, if_neg hns, if_neg (by omega), hp, if_neg (by simp [hp2])]
    refine key _ (fun v' l' W6 h1 h2 ho => .inl ⟨rfl, _, ⟨v', l', rfl, h1, by omega, by rw [hT, h2]⟩, ho⟩) fun W6 Y g hg ho => .inr ⟨rfl, ?_⟩
    refine ⟨_, .done, some .ret, _, rfl, (by intro h; cases h), ho.at_ 0 rfl, List.mem_cons.2 (.inr (List.mem_cons.2 (.inl rfl))), ?_⟩
    have hp : Own w _ (.obj lb (lp L0 .exhausted (some .ret)) :: .obj df (.deferred (some [])) :: (M v l ((k + 1 : Nat) : Int) (.slice none 0 0) g ++ Y)) := put_iter (o' := lp L0 .exhausted (some .ret)) ho 0 rfl
    exact fin df v _ l _ g Y _ hp.tail (.inr ⟨rfl, by rw [hR, hT, hg]⟩)
  · rintro M' X W ⟨v, l, rfl, hll', hkl, hT⟩ ho
    have hkl2 : (strsV (Sc.lines s)).length = (Sc.lines s).length := by simp [strsV]
    rw [hkl2, List.drop_length, Sc.readG] at hT
    refine ⟨_, .ready, none, _, rfl, (by intro h; cases h), ho.at_ 0 rfl, List.mem_cons.2 (.inl rfl), ?_⟩
    have hp : Own w (putO W lb (lp L0 .exhausted none)) (.obj lb (lp L0 .exhausted none) :: .obj df (.deferred (some [])) :: (M v l _ (.slice none 0 0) (0, 0) ++ X)) := put_iter (o' := lp L0 .exhausted none) ho 0 rfl
    have hp := hp.tail
    rw [l_cell nSlS (hp.cell 2 rfl 0 rfl), m_flt0]
    refine o_store 5 hp rfl (by kernel_rfl) (srow_one 3 hp rfl) (by simp) fun W3 ho => ?_
    refine flt_put (g := (0, 0)) 4 ho rfl fun W4 ho => ?_
    exact fin df v v l _ (0, 0) X W4 ho (.inl ⟨rfl, by rw [hR, hT]⟩)
end Go.Proofs.YtjajlcacbbnodaaGreatDoor
/- Contracts: script.Tell, foliantref55.Tell, foliantref05.Texts. -/
namespace Go.Proofs.YtjajlcacbbnodaaGreatDoor
set_option linter.unusedVariables false
set_option linter.unusedSimpArgs false
set_option linter.defProp false
open Eng Go.RowKit

def anC (e n : Int) (v : Value) : List Value := [.int .i64 e, .int .i64 n, v]
def anV (e n : Int) (v : Value) : Value := .agg (anC e n v).toArray
def anE (b : Nat) (e n : Int) (v : Value) : Ent := .cells b (anC e n v) 46
theorem fo_a0 : fOff Tryz.prog 46 0 = some 0 := by kernel_rfl
theorem fo_a1 : fOff Tryz.prog 46 1 = some 1 := by kernel_rfl
theorem fo_a2 : fOff Tryz.prog 46 2 = some 2 := by kernel_rfl
theorem nSlStr : notAgg Tryz.prog 22 = true := by kernel_rfl
section
variable {w : World} {PK : List PanicEntry → World → Prop} {K : Value → World → Prop} {S : Nat → Prop} {w0 : World} {L : List Ent}
theorem fa_a0 {b : Nat} : DoX Tryz.prog (mFA 46 (.pointer (some ⟨b, 0, none⟩)) 0) w PK K = K (.pointer (some ⟨b, 0, none⟩)) w := f_addr fo_a0
theorem fa_a1 {b : Nat} : DoX Tryz.prog (mFA 46 (.pointer (some ⟨b, 0, none⟩)) 1) w PK K = K (.pointer (some ⟨b, 1, none⟩)) w := f_addr fo_a1
theorem fa_a2 {b : Nat} : DoX Tryz.prog (mFA 46 (.pointer (some ⟨b, 0, none⟩)) 2) w PK K = K (.pointer (some ⟨b, 2, none⟩)) w := f_addr fo_a2
theorem o_anb (e n : Int) (v : Value) (hv : v.oneCell' = true) (ho : OwnS S w0 w L) (k : ∀ b w', OwnS S w0 w' (anE b e n v :: L) → K (.pointer (some ⟨b, 0, none⟩)) w') : DoX Tryz.prog (mBox 46 (anV e n v)) w PK K := by
  cases v <;> first | (cases hv; done) | exact o_new (fun b => .pointer (some ⟨b, 0, none⟩)) (anC e n _) 46 (fun _ => by kernel_rfl) ho k
end
theorem itoaA_ret (n : Int) (w : World) (ht : Tb w) (h0 : -9223372036854775808 ≤ n) (h1 : n ≤ 9223372036854775807) : Ret Tryz.prog 79 #[.int .i64 n] w (fun v w' => v = .string ⟨(Lib.itoa n).toArray⟩ ∧ Below w.heap.size w w') := by
  refine ret_of fun K hK => Calls.mono (Tryz.strconv_Itoa n (by omega) (by omega) w ht) ?_
  rintro e w' ⟨rfl, d, os, rfl⟩
  exact hK _ _ ⟨rfl, below_gr w d os⟩
theorem sl_one {w : World} {v : Value} {sz n : Nat} {cs : List Value} (h : Sl w v sz n cs) : v.oneCell' = true := by
  obtain ⟨_, a, cap, rfl, _⟩ := h
  rfl
theorem strsV_one {l : List (List UInt8)} : ∀ x ∈ strsV l, x.oneCell' = true := by
  intro x hx
  obtain ⟨y, _, rfl⟩ := List.mem_map.1 hx
  rfl
theorem stell_ret (e n : Int) (v : Value) (ls : List (List UInt8)) (w : World) (ht : Tb w) (he0 : -9223372036854775808 ≤ e) (he1 : e ≤ 9223372036854775807) (hn0 : -9223372036854775808 ≤ n) (hn1 : n ≤ 9223372036854775807) (hl : ls.length ≤ 1000000)
    (hs : Sl w v 1 ls.length (strsV ls)) : Ret Tryz.prog 37 #[anV e n v] w (fun r w' => Own w w' [StrRow r (Sc.tell e n ls)]) := by
  refine ret_of fun K hK => S_script_Tell_ok ?_
  unfold S_script_Tell
  refine o_anb e n v (sl_one hs) (Own.start w) fun b w1 ho => ?_
  rw [fa_a0, l_cell nErr (ho.cell 0 rfl 0 rfl)]
  simp only [rs]
  by_cases h0 : e = 0
  case neg =>
    simp only [ne_eq, h0, not_false_eq_true, decide_true, rs]
    rw [fa_a0, l_cell nErr (ho.cell 0 rfl 0 rfl)]
    refine c_told (itoaA_ret e w1 (ht.own ho) he0 he1) rfl ho fun w2 ho => ?_
    have hil := itoa_len e he0 he1
    refine do_eq (run_s_add (a := [101, 114, 114, 111, 114, 32]) (b := Lib.itoa e) (by simp; omega)) |>.mpr ?_
    refine o_new (fun b => .slice (some ⟨b, 0, none⟩) 1 1) [.string ⟨([101, 114, 114, 111, 114, 32] ++ Lib.itoa e).toArray⟩] 9 (fun _ => by kernel_rfl) ho fun b2 w3 ho => ?_
    have ho := ho.toRow 1 1 1 (by rfl) (by omega) (by omega)
    refine hK _ _ ?_
    rw [Sc.tell, if_pos h0]
    exact ho.sub (.cons_cons _ (List.nil_sublist _))
  subst h0
  simp only [ne_eq, not_true, decide_false, rs]
  have ht1 : Tb w1 := ht.own ho
  have hnl := itoa_len n hn0 hn1
  have hll := itoa_len (ls.length : Int) (by omega) (by omega)
  refine quiet ?_
  refine q_do _ (fun _ => run_fa fo_a1) ?_
  refine q_at (.int .i64 n) (fun W hW => run_load_cell nInt ((ho.grow hW).cell 0 rfl 1 rfl)) ?_
  refine q_call _ (fun W hW => ret_grew (itoaA_ret n W (ht1.mono hW) hn0 hn1) hW) ?_
  refine q_do _ (fun _ => run_s_add (a := [111, 107, 32]) (b := Lib.itoa n) (by simp; omega)) ?_
  refine q_do _ (fun _ => run_s_add (a := [111, 107, 32] ++ Lib.itoa n) (b := [32]) (by simp; omega)) ?_
  refine q_do _ (fun _ => run_fa fo_a2) ?_
  refine q_at v (fun W hW => run_load_cell nSlStr ((ho.grow hW).cell 0 rfl 2 rfl)) ?_
  refine q_at _ (fun W hW => run_sl_len Tryz.underlying22 ((ho.grow hW).oldSl hs)) ?_
  refine q_call _ (fun W hW => ret_grew (itoaA_ret (ls.length : Int) W (ht1.mono hW) (by omega) (by omega)) hW) ?_
  refine q_do _ (fun _ => run_s_add (by simp; omega)) ?_
  intro w2 hW
  have ho := ho.grow hW
  refine o_new (fun b => .slice (some ⟨b, 0, none⟩) 1 1) [.string ⟨([111, 107, 32] ++ Lib.itoa n ++ [32] ++ Lib.itoa (ls.length : Int)).toArray⟩] 9 (fun _ => by kernel_rfl) ho fun b2 w3 ho => ?_
  have ho := ho.toRow 1 1 1 (by rfl) (by omega) (by omega)
  rw [fa_a2, l_cell nSlStr (ho.cell 1 rfl 2 rfl)]
  refine o_append 0 Tryz.underlying22 (show elB Tryz.prog 9 1 16 = true by kernel_rfl) (by decide) ho rfl (ho.oldSl hs) strsV_one (by omega) (by omega) fun v' w4 ho => ?_
  refine hK _ _ ?_
  have e1 : StrRow v' (Sc.tell 0 n ls) = .row 9 1 v' (1 + ls.length) (([.string ⟨([111, 107, 32] ++ Lib.itoa n ++ [32] ++ Lib.itoa (ls.length : Int)).toArray⟩] : List Value).take (1 * 1) ++ strsV ls) := by
    rw [Sc.tell, if_neg (by simp), StrRow, List.length_cons, Nat.add_comm]; rfl
  rw [e1]
  exact ho.sub (.cons_cons _ (List.nil_sublist _))
theorem rtell_ret (e n : Int) (v : Value) (ls : List (List UInt8)) (w : World) (he0 : -9223372036854775807 ≤ e) (he1 : e ≤ 9223372036854775807) (hn0 : -9223372036854775807 ≤ n) (hn1 : n ≤ 9223372036854775807) (hl : ls.length ≤ 1000000)
    (hs : Sl w v 1 ls.length (strsV ls)) : Ret Tryz.prog 38 #[anV e n v] w (fun r w' => Own w w' [StrRow r (Sc.tell e n ls)]) := by
  refine ret_of fun K hK => S_foliantref55_Tell_ok ?_
  unfold S_foliantref55_Tell
  refine o_anb e n v (sl_one hs) (Own.start w) fun b w1 ho => ?_
  rw [fa_a0, l_cell nErr (ho.cell 0 rfl 0 rfl)]
  simp only [rs]
  by_cases h0 : e = 0
  case neg =>
    simp only [ne_eq, h0, not_false_eq_true, decide_true, rs]
    rw [fa_a0, l_cell nErr (ho.cell 0 rfl 0 rfl)]
    refine c_told (rint55_ret e w1 he0 he1) rfl ho fun w2 ho => ?_
    have hil := itoa_len e (by omega) he1
    refine do_eq (run_s_add (a := [101, 114, 114, 111, 114, 32]) (b := Lib.itoa e) (by simp; omega)) |>.mpr ?_
    refine o_new (fun b => .slice (some ⟨b, 0, none⟩) 1 1) [.string ⟨([101, 114, 114, 111, 114, 32] ++ Lib.itoa e).toArray⟩] 9 (fun _ => by kernel_rfl) ho fun b2 w3 ho => ?_
    have ho := ho.toRow 1 1 1 (by rfl) (by omega) (by omega)
    refine hK _ _ ?_
    rw [Sc.tell, if_pos h0]
    exact ho.sub (.cons_cons _ (List.nil_sublist _))
  subst h0
  simp only [ne_eq, not_true, decide_false, rs]
  have hnl := itoa_len n (by omega) hn1
  have hll := itoa_len (ls.length : Int) (by omega) (by omega)
  refine ⟨fun W => Own w W [anE b 0 n v], ho.drew, ?_⟩
  have ho := ho.drew
  refine ⟨_, fun _ _ => run_fa fo_a1, ?_⟩
  refine ⟨.int .i64 n, fun W h => run_load_cell nInt (h.cell 0 rfl 1 rfl), ?_⟩
  refine ⟨_, fun _ _ => run_fa fo_a2, ?_⟩
  refine ⟨v, fun W h => run_load_cell nSlStr (h.cell 0 rfl 2 rfl), ?_⟩
  refine ⟨_, fun W h => run_sl_len Tryz.underlying22 (h.oldSl hs), ?_⟩
  refine ⟨_, fun _ _ => run_fa fo_a2, ?_⟩
  refine ⟨v, fun W h => run_load_cell nSlStr (h.cell 0 rfl 2 rfl), ?_⟩
  refine c_told (rint55_ret n _ hn0 hn1) rfl ho fun w2 ho => ?_
  refine ⟨ho, ?_⟩
  refine ⟨_, fun _ _ => run_s_add (a := [111, 107, 32]) (b := Lib.itoa n) (by simp; omega), ?_⟩
  refine ⟨_, fun _ _ => run_s_add (a := [111, 107, 32] ++ Lib.itoa n) (b := [32]) (by simp; omega), ?_⟩
  refine c_told (rint55_ret (ls.length : Int) _ (by omega) (by omega)) rfl ho fun w3 ho => ?_
  refine ⟨ho, ?_⟩
  refine ⟨_, fun _ _ => run_s_add (by simp; omega), ?_⟩
  refine o_new (fun b => .slice (some ⟨b, 0, none⟩) 1 1) [.string ⟨([111, 107, 32] ++ Lib.itoa n ++ [32] ++ Lib.itoa (ls.length : Int)).toArray⟩] 9 (fun _ => by kernel_rfl) ho fun b2 w4 ho => ?_
  refine ⟨ho.tail, ?_⟩
  have ho := ho.toRow 1 1 1 (by rfl) (by omega) (by omega)
  refine o_append 0 Tryz.underlying22 (show elB Tryz.prog 9 1 16 = true by kernel_rfl) (by decide) ho rfl (ho.oldSl hs) strsV_one (by omega) (by omega) fun v' w5 ho => ?_
  refine ⟨ho.tail, ?_⟩
  refine hK _ _ ?_
  have e1 : StrRow v' (Sc.tell 0 n ls) = .row 9 1 v' (1 + ls.length) (([.string ⟨([111, 107, 32] ++ Lib.itoa n ++ [32] ++ Lib.itoa (ls.length : Int)).toArray⟩] : List Value).take (1 * 1) ++ strsV ls) := by
    rw [Sc.tell, if_neg (by simp), StrRow, List.length_cons, Nat.add_comm]; rfl
  rw [e1]
  exact ho.sub (.cons_cons _ (List.nil_sublist _))
theorem rtexts_ret (va vb : Value) (la lb : List (List UInt8)) (w : World) (ha : Sl w va 1 la.length (strsV la)) (hb : Sl w vb 1 lb.length (strsV lb)) (hl : la.length ≤ 1099511627776) :
    Ret Tryz.prog 36 #[va, vb] w (fun r w' => r = .bool (decide (la = lb)) ∧ Below w.heap.size w w') := by
  refine ret_of fun K hK => S_foliantref05_Texts_ok ?_
  unfold S_foliantref05_Texts
  rw [sl_len Tryz.underlying22 ha, sl_len Tryz.underlying22 hb]
  simp only [rs]
  by_cases hlen : (la.length : Int) ≠ (lb.length : Int)
  · simp only [decide_eq_true hlen, i_t]
    have hne : la ≠ lb := fun e => hlen (by rw [e])
    exact hK _ _ ⟨by rw [decide_eq_false hne], (Own.start w).done⟩
  have hle : la.length = lb.length := by omega
  simp only [decide_eq_false hlen, i_f, sl_len Tryz.underlying22 ha]
  refine loop (fun vs w' => ∃ (i : Nat), vs = [.int .i64 i] ∧ i ≤ la.length ∧ la.take i = lb.take i ∧ Own w w' []) (fun vs _ => la.length - n0 vs) ⟨0, rfl, by omega, by simp, Own.start w⟩ ?_
  rintro vs w2 ⟨i, rfl, hi, he, ho⟩ _
  simp only [S_foliantref05_Texts_0, gd, rs]
  by_cases hlt : (i : Int) < (la.length : Int)
  · have h1 : i < la.length := by omega
    have h2 : i < lb.length := by omega
    simp only [hlt, decide_true, rs]
    obtain ⟨ba, oa, ca, rfl, hca⟩ := sl_open ha (by omega)
    obtain ⟨bb, ob, cb, rfl, hcb⟩ := sl_open hb (by omega)
    refine quiet (q_do _ (fun _ => run_ia Tryz.underlying22 (show _ = some 1 by kernel_rfl) (by omega) (by omega)) ?_)
    refine q_at (.string ⟨(la[i]).toArray⟩) (fun wc hw => run_load_cell nStr ((ho.grow hw).old ?_)) ?_
    · rw [Int.toNat_natCast, Nat.mul_one]; exact hca i _ (strsV_get h1)
    refine q_do _ (fun _ => run_ia Tryz.underlying22 (show _ = some 1 by kernel_rfl) (by omega) (by omega)) ?_
    refine q_at (.string ⟨(lb[i]).toArray⟩) (fun wc hw => run_load_cell nStr ((ho.grow hw).old ?_)) ?_
    · rw [Int.toNat_natCast, Nat.mul_one]; exact hcb i _ (strsV_get h2)
    refine q_sne ?_
    intro w3 hw
    have ho := ho.grow hw
    by_cases hq : la[i] = lb[i]
    · simp only [hq, ne_eq, not_true, decide_false, i_f, rs]
      rw [wrap64_id (by omega) (by omega)]
      refine nextX ⟨i + 1, rfl, by omega, ?_, ho⟩ (by simp [n0, intOf]; omega)
      rw [List.take_succ_eq_append_getElem h1, List.take_succ_eq_append_getElem h2, he, hq]
    · simp only [hq, ne_eq, not_false_eq_true, decide_true, i_t]
      have hne : la ≠ lb := fun e => hq (by subst e; rfl)
      exact hK _ _ ⟨by rw [decide_eq_false hne], ho.done⟩
  · simp only [hlt, decide_false, rs, g_un]
    have hab : la = lb := by
      rw [List.take_of_length_le (by omega), List.take_of_length_le (by omega)] at he; exact he
    exact hK _ _ ⟨by rw [decide_eq_true hab], ho.done⟩
end Go.Proofs.YtjajlcacbbnodaaGreatDoor
/- Code in continuation form, by program (gen.py): 4 functions. -/
namespace Go.Proofs.YtjajlcacbbnodaaGreatDoor
set_option linter.unusedVariables false
set_option linter.unusedSimpArgs false
set_option linter.defProp false
set_option linter.unusedVariables false
set_option maxRecDepth 20000
open Eng

/- foliantlaw55.lives -/
def S_foliantlaw55_lives (w : World) (K : Ending → World → Prop) : Prop :=
 DoX Tryz.prog (mBuild 43 #[(0, (.int .i64 3)), (1, (.int .i64 4)), (3, (.string ⟨#[40, 92, 10]⟩))]) w (pk K) fun t20 w =>
 CallX Tryz.prog 25 #[t20] w (pk K) fun t21 w =>
 DoX Tryz.prog (mExt t21 0) w (pk K) fun t22 w =>
 DoX Tryz.prog (mExt t21 1) w (pk K) fun t23 w =>
 CallX Tryz.prog 27 #[(.string ⟨#[112, 117, 116, 32, 52, 32, 40, 92, 40, 92, 92, 92, 48, 49, 50, 41]⟩)] w (pk K) fun t25 w =>
 DoX Tryz.prog (mExt t25 0) w (pk K) fun t26 w =>
 DoX Tryz.prog (mExt t25 1) w (pk K) fun t27 w =>
 DoX Tryz.prog (mAlloc 43) w (pk K) fun t3 w =>
 DoX Tryz.prog (mStore 43 t3 t26) w (pk K) fun _ w =>
 CallX Tryz.prog 27 #[(.string ⟨#[112, 117, 116, 32, 48, 52, 32, 40, 41]⟩)] w (pk K) fun t29 w =>
 DoX Tryz.prog (mExt t29 0) w (pk K) fun t30 w =>
 DoX Tryz.prog (mExt t29 1) w (pk K) fun t31 w =>
 DoX Tryz.prog (mAlloc 43) w (pk K) fun t5 w =>
 DoX Tryz.prog (mStore 43 t5 t30) w (pk K) fun _ w =>
 CallX Tryz.prog 27 #[(.string ⟨#[115, 97, 118, 101]⟩)] w (pk K) fun t33 w =>
 DoX Tryz.prog (mExt t33 0) w (pk K) fun t34 w =>
 DoX Tryz.prog (mExt t33 1) w (pk K) fun t35 w =>
 DoX Tryz.prog (mAlloc 43) w (pk K) fun t7 w =>
 DoX Tryz.prog (mStore 43 t7 t34) w (pk K) fun _ w =>
 CallX Tryz.prog 27 #[(.string ⟨#[102, 105, 108, 108, 32, 40, 97, 41, 32, 40, 41]⟩)] w (pk K) fun t37 w =>
 DoX Tryz.prog (mExt t37 0) w (pk K) fun t38 w =>
 DoX Tryz.prog (mExt t37 1) w (pk K) fun t39 w =>
 DoX Tryz.prog (mAlloc 43) w (pk K) fun t9 w =>
 DoX Tryz.prog (mStore 43 t9 t38) w (pk K) fun _ w =>
 DoX Tryz.prog (mBuild 43 #[(0, (.int .i64 10))]) w (pk K) fun t41 w =>
 DoX Tryz.prog (mBuild 43 #[(0, (.int .i64 7)), (1, (.int .i64 1)), (2, (.int .i64 2))]) w (pk K) fun t42 w =>
 DoX Tryz.prog (mBuildS 44 2 #[(0, t41), (1, t42)]) w (pk K) fun t43 w =>
 CallX Tryz.prog 29 #[t43] w (pk K) fun t44 w =>
 DoX Tryz.prog (mExt t44 0) w (pk K) fun t45 w =>
 DoX Tryz.prog (mExt t44 1) w (pk K) fun t46 w =>
 CallX Tryz.prog 31 #[(.string ⟨#[35, 32, 115, 111, 10, 10, 99, 108, 101, 97, 110, 10, 110, 97, 109, 101, 32, 40, 120, 41, 32, 48]⟩)] w (pk K) fun t48 w =>
 DoX Tryz.prog (mExt t48 0) w (pk K) fun t49 w =>
 DoX Tryz.prog (mExt t48 1) w (pk K) fun t50 w =>
 DoX Tryz.prog (mAlloc 36) w (pk K) fun t14 w =>
 DoX Tryz.prog (mStore 36 t14 t50) w (pk K) fun _ w =>
 CallX Tryz.prog 31 #[(.string ⟨#[99, 108, 101, 97, 110, 10, 99, 108, 101, 97, 110, 32, 10]⟩)] w (pk K) fun t52 w =>
 DoX Tryz.prog (mExt t52 0) w (pk K) fun t53 w =>
 DoX Tryz.prog (mExt t52 1) w (pk K) fun t54 w =>
 DoX Tryz.prog (mAlloc 36) w (pk K) fun t16 w =>
 DoX Tryz.prog (mStore 36 t16 t54) w (pk K) fun _ w =>
 DoX Tryz.prog (mBuildS 22 1 #[(0, (.string ⟨#[120]⟩))]) w (pk K) fun t55 w =>
 DoX Tryz.prog (mBuild 46 #[(1, (.int .i64 2)), (2, t55)]) w (pk K) fun t56 w =>
 CallX Tryz.prog 37 #[t56] w (pk K) fun t57 w =>
 DoX Tryz.prog (mBuild 46 #[(0, (.int .i64 8))]) w (pk K) fun t58 w =>
 CallX Tryz.prog 37 #[t58] w (pk K) fun t59 w =>
 DoX Tryz.prog (mEq .neq 9 (.tmp 60) (.const (.string ⟨#[112, 117, 116, 32, 52, 32, 40, 92, 40, 92, 92, 92, 48, 49, 50, 41]⟩)) t22 (.string ⟨#[112, 117, 116, 32, 52, 32, 40, 92, 40, 92, 92, 92, 48, 49, 50, 41]⟩)) w (pk K) fun t61 w =>
 GDo t61 false (fun E => E t23 w) w fun t63 w =>
 GDo t61 false (fun E => DoX Tryz.prog (mEq .neq 28 (.tmp 63) (.const (.int .i64 0)) t63 (.int .i64 0)) w (pk K) E) w fun t64 w =>
 DoX Tryz.prog (mPick t61 (.bool true) t64) w (pk K) fun t65 w =>
 GDo t65 false (fun E => DoX Tryz.prog (mLoad 43 t3) w (pk K) E) w fun t67 w =>
 GDo t65 false (fun E => DoX Tryz.prog (mBuild 43 #[(0, (.int .i64 3)), (1, (.int .i64 4)), (3, (.string ⟨#[40, 92, 10]⟩))]) w (pk K) E) w fun t68 w =>
 GDo t65 false (fun E => DoX Tryz.prog (mEq .neq 43 (.tmp 67) (.tmp 68) t67 t68) w (pk K) E) w fun t69 w =>
 DoX Tryz.prog (mPick t65 (.bool true) t69) w (pk K) fun t70 w =>
 GDo t70 false (fun E => E t27 w) w fun t72 w =>
 GDo t70 false (fun E => DoX Tryz.prog (mEq .neq 28 (.tmp 72) (.const (.int .i64 0)) t72 (.int .i64 0)) w (pk K) E) w fun t73 w =>
 DoX Tryz.prog (mPick t70 (.bool true) t73) w (pk K) fun t74 w =>
 GDo t74 false (fun E => E t31 w) w fun t76 w =>
 GDo t74 false (fun E => DoX Tryz.prog (mEq .neq 28 (.tmp 76) (.const (.int .i64 33)) t76 (.int .i64 33)) w (pk K) E) w fun t77 w =>
 DoX Tryz.prog (mPick t74 (.bool true) t77) w (pk K) fun t78 w =>
 GDo t78 false (fun E => E t35 w) w fun t80 w =>
 GDo t78 false (fun E => DoX Tryz.prog (mEq .neq 28 (.tmp 80) (.const (.int .i64 33)) t80 (.int .i64 33)) w (pk K) E) w fun t81 w =>
 DoX Tryz.prog (mPick t78 (.bool true) t81) w (pk K) fun t82 w =>
 GDo t82 false (fun E => DoX Tryz.prog (mLoad 43 t9) w (pk K) E) w fun t84 w =>
 GDo t82 false (fun E => DoX Tryz.prog (mBuild 43 #[(0, (.int .i64 9)), (3, (.string ⟨#[97]⟩))]) w (pk K) E) w fun t85 w =>
 GDo t82 false (fun E => DoX Tryz.prog (mEq .neq 43 (.tmp 84) (.tmp 85) t84 t85) w (pk K) E) w fun t86 w =>
 DoX Tryz.prog (mPick t82 (.bool true) t86) w (pk K) fun t87 w =>
 GDo t87 false (fun E => E t39 w) w fun t89 w =>
 GDo t87 false (fun E => DoX Tryz.prog (mEq .neq 28 (.tmp 89) (.const (.int .i64 0)) t89 (.int .i64 0)) w (pk K) E) w fun t90 w =>
 DoX Tryz.prog (mPick t87 (.bool true) t90) w (pk K) fun t91 w =>
 GDo t91 false (fun E => E t45 w) w fun t93 w =>
 GDo t91 false (fun E => DoX Tryz.prog (mEq .neq 9 (.tmp 93) (.const (.string ⟨#[99, 108, 101, 97, 110, 10, 109, 111, 118, 101, 32, 49, 32, 50, 10]⟩)) t93 (.string ⟨#[99, 108, 101, 97, 110, 10, 109, 111, 118, 101, 32, 49, 32, 50, 10]⟩)) w (pk K) E) w fun t94 w =>
 DoX Tryz.prog (mPick t91 (.bool true) t94) w (pk K) fun t95 w =>
 GDo t95 false (fun E => E t46 w) w fun t97 w =>
 GDo t95 false (fun E => DoX Tryz.prog (mEq .neq 28 (.tmp 97) (.const (.int .i64 0)) t97 (.int .i64 0)) w (pk K) E) w fun t98 w =>
 DoX Tryz.prog (mPick t95 (.bool true) t98) w (pk K) fun t99 w =>
 IfX t99 (K (.returned (.bool false)) w) (DoX Tryz.prog (mB .len #[44] 3 #[false] #[t49]) w (pk K) fun t101 w =>
 DoX Tryz.prog (mEq .neq 3 (.tmp 101) (.const (.int .i64 2)) t101 (.int .i64 2)) w (pk K) fun t102 w =>
 GDo t102 false (fun E => E t49 w) w fun t104 w =>
 GDo t102 false (fun E => DoX Tryz.prog (mIA 44 t104 (.int .i64 1)) w (pk K) E) w fun t105 w =>
 GDo t102 false (fun E => DoX Tryz.prog (mLoad 43 t105) w (pk K) E) w fun t106 w =>
 GDo t102 false (fun E => DoX Tryz.prog (mBuild 43 #[(0, (.int .i64 8)), (3, (.string ⟨#[120]⟩))]) w (pk K) E) w fun t107 w =>
 GDo t102 false (fun E => DoX Tryz.prog (mEq .neq 43 (.tmp 106) (.tmp 107) t106 t107) w (pk K) E) w fun t108 w =>
 DoX Tryz.prog (mPick t102 (.bool true) t108) w (pk K) fun t109 w =>
 GDo t109 false (fun E => DoX Tryz.prog (mLoad 36 t14) w (pk K) E) w fun t111 w =>
 GDo t109 false (fun E => DoX Tryz.prog (mBuild 36 #[]) w (pk K) E) w fun t112 w =>
 GDo t109 false (fun E => DoX Tryz.prog (mEq .neq 36 (.tmp 111) (.tmp 112) t111 t112) w (pk K) E) w fun t113 w =>
 DoX Tryz.prog (mPick t109 (.bool true) t113) w (pk K) fun t114 w =>
 GDo t114 false (fun E => DoX Tryz.prog (mLoad 36 t16) w (pk K) E) w fun t116 w =>
 GDo t114 false (fun E => DoX Tryz.prog (mBuild 36 #[(0, (.int .i64 2)), (1, (.int .i64 33))]) w (pk K) E) w fun t117 w =>
 GDo t114 false (fun E => DoX Tryz.prog (mEq .neq 36 (.tmp 116) (.tmp 117) t116 t117) w (pk K) E) w fun t118 w =>
 DoX Tryz.prog (mPick t114 (.bool true) t118) w (pk K) fun t119 w =>
 GDo t119 false (fun E => E t57 w) w fun t121 w =>
 GDo t119 false (fun E => DoX Tryz.prog (mB .len #[22] 3 #[false] #[t121]) w (pk K) E) w fun t122 w =>
 GDo t119 false (fun E => DoX Tryz.prog (mEq .neq 3 (.tmp 122) (.const (.int .i64 2)) t122 (.int .i64 2)) w (pk K) E) w fun t123 w =>
 DoX Tryz.prog (mPick t119 (.bool true) t123) w (pk K) fun t124 w =>
 GDo t124 false (fun E => E t57 w) w fun t126 w =>
 GDo t124 false (fun E => DoX Tryz.prog (mIA 22 t126 (.int .i64 0)) w (pk K) E) w fun t127 w =>
 GDo t124 false (fun E => DoX Tryz.prog (mLoad 9 t127) w (pk K) E) w fun t128 w =>
 GDo t124 false (fun E => DoX Tryz.prog (mEq .neq 9 (.tmp 128) (.const (.string ⟨#[111, 107, 32, 50, 32, 49]⟩)) t128 (.string ⟨#[111, 107, 32, 50, 32, 49]⟩)) w (pk K) E) w fun t129 w =>
 DoX Tryz.prog (mPick t124 (.bool true) t129) w (pk K) fun t130 w =>
 GDo t130 false (fun E => E t57 w) w fun t132 w =>
 GDo t130 false (fun E => DoX Tryz.prog (mIA 22 t132 (.int .i64 1)) w (pk K) E) w fun t133 w =>
 GDo t130 false (fun E => DoX Tryz.prog (mLoad 9 t133) w (pk K) E) w fun t134 w =>
 GDo t130 false (fun E => DoX Tryz.prog (mEq .neq 9 (.tmp 134) (.const (.string ⟨#[120]⟩)) t134 (.string ⟨#[120]⟩)) w (pk K) E) w fun t135 w =>
 DoX Tryz.prog (mPick t130 (.bool true) t135) w (pk K) fun t136 w =>
 GDo t136 false (fun E => E t59 w) w fun t138 w =>
 GDo t136 false (fun E => DoX Tryz.prog (mB .len #[22] 3 #[false] #[t138]) w (pk K) E) w fun t139 w =>
 GDo t136 false (fun E => DoX Tryz.prog (mEq .neq 3 (.tmp 139) (.const (.int .i64 1)) t139 (.int .i64 1)) w (pk K) E) w fun t140 w =>
 DoX Tryz.prog (mPick t136 (.bool true) t140) w (pk K) fun t141 w =>
 GDo t141 false (fun E => E t59 w) w fun t143 w =>
 GDo t141 false (fun E => DoX Tryz.prog (mIA 22 t143 (.int .i64 0)) w (pk K) E) w fun t144 w =>
 GDo t141 false (fun E => DoX Tryz.prog (mLoad 9 t144) w (pk K) E) w fun t145 w =>
 GDo t141 false (fun E => DoX Tryz.prog (mEq .neq 9 (.tmp 145) (.const (.string ⟨#[101, 114, 114, 111, 114, 32, 56]⟩)) t145 (.string ⟨#[101, 114, 114, 111, 114, 32, 56]⟩)) w (pk K) E) w fun t146 w =>
 DoX Tryz.prog (mPick t141 (.bool true) t146) w (pk K) fun t147 w =>
 IfX t147 (K (.returned (.bool false)) w) (DoX Tryz.prog (mBuild 43 #[]) w (pk K) fun t148 w =>
 CallX Tryz.prog 33 #[t148] w (pk K) fun t149 w =>
 DoX Tryz.prog (mEq .eql 28 (.tmp 149) (.const (.int .i64 10)) t149 (.int .i64 10)) w (pk K) fun t150 w =>
 GDo t150 true (fun E => DoX Tryz.prog (mBuild 43 #[(0, (.int .i64 10)), (1, (.int .i64 1))]) w (pk K) E) w fun t152 w =>
 GDo t150 true (fun E => CallX Tryz.prog 33 #[t152] w (pk K) E) w fun t153 w =>
 GDo t150 true (fun E => DoX Tryz.prog (mEq .eql 28 (.tmp 153) (.const (.int .i64 10)) t153 (.int .i64 10)) w (pk K) E) w fun t154 w =>
 DoX Tryz.prog (mPick t150 t154 (.bool false)) w (pk K) fun t155 w =>
 GDo t155 true (fun E => DoX Tryz.prog (mBuild 43 #[(0, (.int .i64 11)), (1, (.int .i64 (-1)))]) w (pk K) E) w fun t157 w =>
 GDo t155 true (fun E => CallX Tryz.prog 33 #[t157] w (pk K) E) w fun t158 w =>
 GDo t155 true (fun E => DoX Tryz.prog (mEq .eql 28 (.tmp 158) (.const (.int .i64 2)) t158 (.int .i64 2)) w (pk K) E) w fun t159 w =>
 DoX Tryz.prog (mPick t155 t159 (.bool false)) w (pk K) fun t160 w =>
 GDo t160 true (fun E => DoX Tryz.prog (mBuild 43 #[(0, (.int .i64 21))]) w (pk K) E) w fun t162 w =>
 GDo t160 true (fun E => CallX Tryz.prog 33 #[t162] w (pk K) E) w fun t163 w =>
 GDo t160 true (fun E => DoX Tryz.prog (mEq .eql 28 (.tmp 163) (.const (.int .i64 0)) t163 (.int .i64 0)) w (pk K) E) w fun t164 w =>
 DoX Tryz.prog (mPick t160 t164 (.bool false)) w (pk K) fun t165 w =>
 GDo t165 true (fun E => DoX Tryz.prog (mBuild 43 #[(0, (.int .i64 22))]) w (pk K) E) w fun t167 w =>
 GDo t165 true (fun E => CallX Tryz.prog 33 #[t167] w (pk K) E) w fun t168 w =>
 GDo t165 true (fun E => DoX Tryz.prog (mEq .eql 28 (.tmp 168) (.const (.int .i64 10)) t168 (.int .i64 10)) w (pk K) E) w fun t169 w =>
 DoX Tryz.prog (mPick t165 t169 (.bool false)) w (pk K) fun t170 w =>
 K (.returned t170) w))
theorem S_foliantlaw55_lives_eq (w : World) (K : Ending → World → Prop) : wpX Tryz.prog 171 [] [] none (bodyOf Tryz.f24) (topQ Tryz.prog [.tmp 0] K) (startX []) [] w = S_foliantlaw55_lives w K := by kernel_rfl
theorem S_foliantlaw55_lives_ok {w : World} {K : Ending → World → Prop} (h : S_foliantlaw55_lives w K) : Calls Tryz.prog 24 #[] w K :=
  calls_of_wpX Tryz.func24 rfl rfl rfl rfl (Eq.mpr (S_foliantlaw55_lives_eq w K) h)

/- foliantlaw55.ScriptTells -/
def S_foliantlaw55_ScriptTells (t0 t1 t2 t3 t4 : Value) (w : World) (K : Ending → World → Prop) : Prop :=
 DoX Tryz.prog (mBox 43 t0) w (pk K) fun t5 w =>
 DoX Tryz.prog (mBox 46 t4) w (pk K) fun t9 w =>
 DoX Tryz.prog (mLoad 43 t5) w (pk K) fun t27 w =>
 DoX Tryz.prog (mBuildS 44 1 #[(0, t27)]) w (pk K) fun t28 w =>
 CallX Tryz.prog 23 #[t28] w (pk K) fun t29 w =>
 DoX Tryz.prog (mUn .not t29) w (pk K) fun t30 w =>
 GDo t30 false (fun E => E t2 w) w fun t32 w =>
 GDo t30 false (fun E => CallX Tryz.prog 23 #[t32] w (pk K) E) w fun t33 w =>
 GDo t30 false (fun E => DoX Tryz.prog (mUn .not t33) w (pk K) E) w fun t34 w =>
 DoX Tryz.prog (mPick t30 (.bool true) t34) w (pk K) fun t35 w =>
 GDo t35 false (fun E => E t1 w) w fun t37 w =>
 GDo t35 false (fun E => DoX Tryz.prog (mB .len #[9] 3 #[false] #[t37]) w (pk K) E) w fun t38 w =>
 GDo t35 false (fun E => DoX Tryz.prog (mBin .gtr 3 t38 (.int .i64 3000)) w (pk K) E) w fun t39 w =>
 DoX Tryz.prog (mPick t35 (.bool true) t39) w (pk K) fun t40 w =>
 GDo t40 false (fun E => E t3 w) w fun t42 w =>
 GDo t40 false (fun E => DoX Tryz.prog (mB .len #[9] 3 #[false] #[t42]) w (pk K) E) w fun t43 w =>
 GDo t40 false (fun E => DoX Tryz.prog (mBin .gtr 3 t43 (.int .i64 6000)) w (pk K) E) w fun t44 w =>
 DoX Tryz.prog (mPick t40 (.bool true) t44) w (pk K) fun t45 w =>
 GDo t45 false (fun E => DoX Tryz.prog (mFA 46 t9 2) w (pk K) E) w fun t47 w =>
 GDo t45 false (fun E => DoX Tryz.prog (mLoad 22 t47) w (pk K) E) w fun t48 w =>
 GDo t45 false (fun E => DoX Tryz.prog (mB .len #[22] 3 #[false] #[t48]) w (pk K) E) w fun t49 w =>
 GDo t45 false (fun E => DoX Tryz.prog (mBin .gtr 3 t49 (.int .i64 40)) w (pk K) E) w fun t50 w =>
 DoX Tryz.prog (mPick t45 (.bool true) t50) w (pk K) fun t51 w =>
 GDo t51 false (fun E => DoX Tryz.prog (mFA 46 t9 1) w (pk K) E) w fun t53 w =>
 GDo t51 false (fun E => DoX Tryz.prog (mLoad 3 t53) w (pk K) E) w fun t54 w =>
 GDo t51 false (fun E => DoX Tryz.prog (mBin .lss 3 t54 (.int .i64 (-4611686018427387904))) w (pk K) E) w fun t55 w =>
 DoX Tryz.prog (mPick t51 (.bool true) t55) w (pk K) fun t56 w =>
 GDo t56 false (fun E => DoX Tryz.prog (mFA 46 t9 0) w (pk K) E) w fun t58 w =>
 GDo t56 false (fun E => DoX Tryz.prog (mLoad 28 t58) w (pk K) E) w fun t59 w =>
 GDo t56 false (fun E => DoX Tryz.prog (mBin .lss 28 t59 (.int .i64 0)) w (pk K) E) w fun t60 w =>
 DoX Tryz.prog (mPick t56 (.bool true) t60) w (pk K) fun t61 w =>
 IfX t61 (CallX Tryz.prog 24 #[] w (pk K) fun t62 w =>
 K (.returned t62) w) (DoX Tryz.prog (mLoad 43 t5) w (pk K) fun t64 w =>
 CallX Tryz.prog 25 #[t64] w (pk K) fun t65 w =>
 DoX Tryz.prog (mExt t65 0) w (pk K) fun t66 w =>
 DoX Tryz.prog (mExt t65 1) w (pk K) fun t67 w =>
 DoX Tryz.prog (mLoad 43 t5) w (pk K) fun t69 w =>
 CallX Tryz.prog 26 #[t69] w (pk K) fun t70 w =>
 DoX Tryz.prog (mExt t70 0) w (pk K) fun t71 w =>
 DoX Tryz.prog (mExt t70 1) w (pk K) fun t72 w =>
 CallX Tryz.prog 27 #[t1] w (pk K) fun t75 w =>
 DoX Tryz.prog (mExt t75 0) w (pk K) fun t76 w =>
 DoX Tryz.prog (mExt t75 1) w (pk K) fun t77 w =>
 DoX Tryz.prog (mAlloc 43) w (pk K) fun t15 w =>
 DoX Tryz.prog (mStore 43 t15 t76) w (pk K) fun _ w =>
 CallX Tryz.prog 28 #[t1] w (pk K) fun t80 w =>
 DoX Tryz.prog (mExt t80 0) w (pk K) fun t81 w =>
 DoX Tryz.prog (mExt t80 1) w (pk K) fun t82 w =>
 DoX Tryz.prog (mAlloc 43) w (pk K) fun t17 w =>
 DoX Tryz.prog (mStore 43 t17 t81) w (pk K) fun _ w =>
 CallX Tryz.prog 29 #[t2] w (pk K) fun t85 w =>
 DoX Tryz.prog (mExt t85 0) w (pk K) fun t86 w =>
 DoX Tryz.prog (mExt t85 1) w (pk K) fun t87 w =>
 CallX Tryz.prog 30 #[t2] w (pk K) fun t90 w =>
 DoX Tryz.prog (mExt t90 0) w (pk K) fun t91 w =>
 DoX Tryz.prog (mExt t90 1) w (pk K) fun t92 w =>
 CallX Tryz.prog 31 #[t3] w (pk K) fun t95 w =>
 DoX Tryz.prog (mExt t95 0) w (pk K) fun t96 w =>
 DoX Tryz.prog (mExt t95 1) w (pk K) fun t97 w =>
 DoX Tryz.prog (mAlloc 36) w (pk K) fun t24 w =>
 DoX Tryz.prog (mStore 36 t24 t97) w (pk K) fun _ w =>
 CallX Tryz.prog 32 #[t3] w (pk K) fun t100 w =>
 DoX Tryz.prog (mExt t100 0) w (pk K) fun t101 w =>
 DoX Tryz.prog (mExt t100 1) w (pk K) fun t102 w =>
 DoX Tryz.prog (mAlloc 36) w (pk K) fun t26 w =>
 DoX Tryz.prog (mStore 36 t26 t102) w (pk K) fun _ w =>
 HeldX w (fun S1 w =>
 HDo Tryz.prog S1 (mLoad 43 t5) fun t103 =>
 HDo Tryz.prog S1 (mLoad 43 t5) fun t105 =>
 CallX Tryz.prog 33 #[t103] w (pm1 (pm1 (pm1 (pm1 (pm1 (pm1 (pm1 (pm1 (pm1 (pm1 (pm1 (pm1 (pm1 (pm1 (pm1 (pm1 (pm1 (pm1 (pm1 (pm1 (pm1 (pm1 (pm1 (pm1 (pm1 (pm1 (pm1 (pm1 (pm1 (pm1 (pm1 (pm1 (pm1 (pm1 (pm1 (pm1 (pm1 (pm1 (pm1 (pm1 (pm1 (pm1 (pm1 (pm1 (pm1 (pm1 (pm1 (pm1 (pm1 (pk K)))))))))))))))))))))))))))))))))))))))))))))))))) fun t104 w =>
 S1 w ∧ (CallX Tryz.prog 34 #[t105] w (pm1 (pm1 (pm1 (pm1 (pm1 (pm1 (pm1 (pm1 (pm1 (pm1 (pm1 (pm1 (pm1 (pm1 (pm1 (pm1 (pm1 (pm1 (pm1 (pm1 (pm1 (pm1 (pm1 (pm1 (pm1 (pm1 (pm1 (pm1 (pm1 (pm1 (pm1 (pm1 (pm1 (pm1 (pm1 (pm1 (pm1 (pm1 (pm1 (pm1 (pm1 (pm1 (pm1 (pm1 (pm1 (pm1 (pm1 (pm1 (pm1 (pk K)))))))))))))))))))))))))))))))))))))))))))))))))) fun t106 w =>
 S1 w ∧ (HDo Tryz.prog S1 (mEq .eql 28 (.tmp 104) (.tmp 106) t104 t106) fun t107 =>
 GQ t107 true (fun E => E t66) fun t109 =>
 GQ t107 true (fun E => E t71) fun t110 =>
 GQ t107 true (fun E => HDo Tryz.prog S1 (mEq .eql 9 (.tmp 109) (.tmp 110) t109 t110) E) fun t111 =>
 HDo Tryz.prog S1 (mPick t107 t111 (.bool false)) fun t112 =>
 GQ t112 true (fun E => E t67) fun t114 =>
 GQ t112 true (fun E => E t72) fun t115 =>
 GQ t112 true (fun E => HDo Tryz.prog S1 (mEq .eql 28 (.tmp 114) (.tmp 115) t114 t115) E) fun t116 =>
 HDo Tryz.prog S1 (mPick t112 t116 (.bool false)) fun t117 =>
 GQ t117 true (fun E => HDo Tryz.prog S1 (mLoad 43 t15) E) fun t119 =>
 GQ t117 true (fun E => HDo Tryz.prog S1 (mLoad 43 t17) E) fun t120 =>
 GQ t117 true (fun E => HDo Tryz.prog S1 (mEq .eql 43 (.tmp 119) (.tmp 120) t119 t120) E) fun t121 =>
 HDo Tryz.prog S1 (mPick t117 t121 (.bool false)) fun t122 =>
 GQ t122 true (fun E => E t77) fun t124 =>
 GQ t122 true (fun E => E t82) fun t125 =>
 GQ t122 true (fun E => HDo Tryz.prog S1 (mEq .eql 28 (.tmp 124) (.tmp 125) t124 t125) E) fun t126 =>
 HDo Tryz.prog S1 (mPick t122 t126 (.bool false)) fun t127 =>
 GQ t127 true (fun E => E t86) fun t129 =>
 GQ t127 true (fun E => E t91) fun t130 =>
 GQ t127 true (fun E => HDo Tryz.prog S1 (mEq .eql 9 (.tmp 129) (.tmp 130) t129 t130) E) fun t131 =>
 HDo Tryz.prog S1 (mPick t127 t131 (.bool false)) fun t132 =>
 GQ t132 true (fun E => E t87) fun t134 =>
 GQ t132 true (fun E => E t92) fun t135 =>
 GQ t132 true (fun E => HDo Tryz.prog S1 (mEq .eql 28 (.tmp 134) (.tmp 135) t134 t135) E) fun t136 =>
 HDo Tryz.prog S1 (mPick t132 t136 (.bool false)) fun t137 =>
 GQ t137 true (fun E => E t96) fun t139 =>
 GQ t137 true (fun E => E t101) fun t140 =>
 GDo t137 true (fun E => CallX Tryz.prog 35 #[t139, t140] w (pm1 (pm1 (pm1 (pm1 (pm1 (pm1 (pm1 (pm1 (pm1 (pm1 (pm1 (pm1 (pm1 (pm1 (pm1 (pm1 (pm1 (pm1 (pm1 (pm1 (pm1 (pm1 (pm1 (pm1 (pm1 (pm1 (pm1 (pm1 (pm1 (pm1 (pm1 (pm1 (pm1 (pm1 (pm1 (pm1 (pm1 (pm1 (pm1 (pm1 (pm1 (pm1 (pm1 (pm1 (pm1 (pm1 (pm1 (pm1 (pm1 (pk K)))))))))))))))))))))))))))))))))))))))))))))))))) E) w fun t141 w =>
 S1 w ∧ (HDo Tryz.prog S1 (mPick t137 t141 (.bool false)) fun t142 =>
 GQ t142 true (fun E => HDo Tryz.prog S1 (mLoad 36 t24) E) fun t144 =>
 GQ t142 true (fun E => HDo Tryz.prog S1 (mLoad 36 t26) E) fun t145 =>
 GQ t142 true (fun E => HDo Tryz.prog S1 (mEq .eql 36 (.tmp 144) (.tmp 145) t144 t145) E) fun t146 =>
 HDo Tryz.prog S1 (mPick t142 t146 (.bool false)) fun t147 =>
 GQ t147 true (fun E => HDo Tryz.prog S1 (mLoad 46 t9) E) fun t149 =>
 GQ t147 true (fun E => HDo Tryz.prog S1 (mLoad 46 t9) E) fun t151 =>
 GDo t147 true (fun E => CallX Tryz.prog 37 #[t149] w (pm1 (pm1 (pm1 (pm1 (pm1 (pm1 (pm1 (pm1 (pm1 (pm1 (pm1 (pm1 (pm1 (pm1 (pm1 (pm1 (pm1 (pm1 (pm1 (pm1 (pm1 (pm1 (pm1 (pm1 (pm1 (pm1 (pm1 (pm1 (pm1 (pm1 (pm1 (pm1 (pm1 (pm1 (pm1 (pm1 (pm1 (pm1 (pm1 (pm1 (pm1 (pm1 (pm1 (pm1 (pm1 (pm1 (pm1 (pm1 (pm1 (pk K)))))))))))))))))))))))))))))))))))))))))))))))))) E) w fun t150 w =>
 S1 w ∧ (GDo t147 true (fun E => CallX Tryz.prog 38 #[t151] w (pm1 (pm1 (pm1 (pm1 (pm1 (pm1 (pm1 (pm1 (pm1 (pm1 (pm1 (pm1 (pm1 (pm1 (pm1 (pm1 (pm1 (pm1 (pm1 (pm1 (pm1 (pm1 (pm1 (pm1 (pm1 (pm1 (pm1 (pm1 (pm1 (pm1 (pm1 (pm1 (pm1 (pm1 (pm1 (pm1 (pm1 (pm1 (pm1 (pm1 (pm1 (pm1 (pm1 (pm1 (pm1 (pm1 (pm1 (pm1 (pm1 (pk K)))))))))))))))))))))))))))))))))))))))))))))))))) E) w fun t152 w =>
 S1 w ∧ (GDo t147 true (fun E => CallX Tryz.prog 36 #[t150, t152] w (pm1 (pm1 (pm1 (pm1 (pm1 (pm1 (pm1 (pm1 (pm1 (pm1 (pm1 (pm1 (pm1 (pm1 (pm1 (pm1 (pm1 (pm1 (pm1 (pm1 (pm1 (pm1 (pm1 (pm1 (pm1 (pm1 (pm1 (pm1 (pm1 (pm1 (pm1 (pm1 (pm1 (pm1 (pm1 (pm1 (pm1 (pm1 (pm1 (pm1 (pm1 (pm1 (pm1 (pm1 (pm1 (pm1 (pm1 (pm1 (pm1 (pk K)))))))))))))))))))))))))))))))))))))))))))))))))) E) w fun t153 w =>
 S1 w ∧ (HDo Tryz.prog S1 (mPick t147 t153 (.bool false)) fun t154 =>
 GDo t154 true (fun E => CallX Tryz.prog 24 #[] w (pm1 (pm1 (pm1 (pm1 (pm1 (pm1 (pm1 (pm1 (pm1 (pm1 (pm1 (pm1 (pm1 (pm1 (pm1 (pm1 (pm1 (pm1 (pm1 (pm1 (pm1 (pm1 (pm1 (pm1 (pm1 (pm1 (pm1 (pm1 (pm1 (pm1 (pm1 (pm1 (pm1 (pm1 (pm1 (pm1 (pm1 (pm1 (pm1 (pm1 (pm1 (pm1 (pm1 (pm1 (pm1 (pm1 (pm1 (pm1 (pm1 (pk K)))))))))))))))))))))))))))))))))))))))))))))))))) E) w fun t156 w =>
 S1 w ∧ (HDo Tryz.prog S1 (mPick t154 t156 (.bool false)) fun t157 =>
 K (.returned t157) w)))))))))
theorem S_foliantlaw55_ScriptTells_eq (t0 t1 t2 t3 t4 : Value) (w : World) (K : Ending → World → Prop) : wpX Tryz.prog 158 [] [] none (bodyOf Tryz.f6) (topQ Tryz.prog [.tmp 10] K) (startX [t0, t1, t2, t3, t4]) [] w = S_foliantlaw55_ScriptTells t0 t1 t2 t3 t4 w K := by kernel_rfl
theorem S_foliantlaw55_ScriptTells_ok {t0 t1 t2 t3 t4 : Value} {w : World} {K : Ending → World → Prop} (h : S_foliantlaw55_ScriptTells t0 t1 t2 t3 t4 w K) : Calls Tryz.prog 6 #[t0, t1, t2, t3, t4] w K :=
  calls_of_wpX Tryz.func6 rfl rfl rfl rfl (Eq.mpr (S_foliantlaw55_ScriptTells_eq t0 t1 t2 t3 t4 w K) h)

/- foliantlaw55.ScriptBack -/
def S_foliantlaw55_ScriptBack_1 (t2 : Value) (w : World) (K : Ending → World → Prop) : Prop :=
 CallX Tryz.prog 27 #[t2] w (pk K) fun t89 w =>
 DoX Tryz.prog (mExt t89 0) w (pk K) fun t90 w =>
 DoX Tryz.prog (mExt t89 1) w (pk K) fun t91 w =>
 DoX Tryz.prog (mAlloc 43) w (pk K) fun t14 w =>
 DoX Tryz.prog (mStore 43 t14 t90) w (pk K) fun _ w =>
 DoX Tryz.prog (mEq .neq 28 (.tmp 92) (.const (.int .i64 0)) t91 (.int .i64 0)) w (pk K) fun t93 w =>
 IfX t93 (DoX Tryz.prog (mLoad 43 t14) w (pk K) fun t94 w =>
 DoX Tryz.prog (mBuild 43 #[]) w (pk K) fun t95 w =>
 DoX Tryz.prog (mEq .eql 43 (.tmp 94) (.tmp 95) t94 t95) w (pk K) fun t96 w =>
 K (.returned t96) w) (DoX Tryz.prog (mLoad 43 t14) w (pk K) fun t98 w =>
 CallX Tryz.prog 25 #[t98] w (pk K) fun t99 w =>
 DoX Tryz.prog (mExt t99 0) w (pk K) fun t100 w =>
 DoX Tryz.prog (mExt t99 1) w (pk K) fun t101 w =>
 DoX Tryz.prog (mEq .eql 9 (.tmp 102) (.tmp 103) t100 t2) w (pk K) fun t104 w =>
 GDo t104 true (fun E => E t101 w) w fun t106 w =>
 GDo t104 true (fun E => DoX Tryz.prog (mEq .eql 28 (.tmp 106) (.const (.int .i64 0)) t106 (.int .i64 0)) w (pk K) E) w fun t107 w =>
 DoX Tryz.prog (mPick t104 t107 (.bool false)) w (pk K) fun t108 w =>
 GDo t108 true (fun E => DoX Tryz.prog (mLoad 43 t14) w (pk K) E) w fun t110 w =>
 GDo t108 true (fun E => CallX Tryz.prog 33 #[t110] w (pk K) E) w fun t111 w =>
 GDo t108 true (fun E => DoX Tryz.prog (mEq .eql 28 (.tmp 111) (.const (.int .i64 0)) t111 (.int .i64 0)) w (pk K) E) w fun t112 w =>
 DoX Tryz.prog (mPick t108 t112 (.bool false)) w (pk K) fun t113 w =>
 K (.returned t113) w)
def S_foliantlaw55_ScriptBack_0 (t0 t1 t2 t7 : Value) (w : World) (N1 : List Value → World → Prop) (K : Ending → World → Prop) : Prop :=
 DoX Tryz.prog (mB .len #[9] 3 #[false] #[t1]) w (pk K) fun t35 w =>
 DoX Tryz.prog (mBin .lss 3 t7 t35) w (pk K) fun t36 w =>
 IfX t36 (DoX Tryz.prog (mIx 9 t1 t7) w (pk K) fun t41 w =>
 DoX Tryz.prog (mEq .eql 5 (.tmp 41) (.const (.int .u8 10)) t41 (.int .u8 10)) w (pk K) fun t42 w =>
 IfX t42 (K (.returned (.bool true)) w) (DoX Tryz.prog (mBin .add 3 t7 (.int .i64 1)) w (pk K) fun t38 w =>
 N1 [t38] w)) (CallX Tryz.prog 29 #[t0] w (pk K) fun t45 w =>
 DoX Tryz.prog (mExt t45 0) w (pk K) fun t46 w =>
 DoX Tryz.prog (mExt t45 1) w (pk K) fun t47 w =>
 JoinX (fun J2 =>
 DoX Tryz.prog (mEq .eql 28 (.tmp 48) (.const (.int .i64 0)) t47 (.int .i64 0)) w (pk K) fun t49 w =>
 IfX t49 (CallX Tryz.prog 31 #[t46] w (pk K) fun t52 w =>
 DoX Tryz.prog (mExt t52 0) w (pk K) fun t53 w =>
 DoX Tryz.prog (mExt t52 1) w (pk K) fun t54 w =>
 DoX Tryz.prog (mAlloc 36) w (pk K) fun t11 w =>
 DoX Tryz.prog (mStore 36 t11 t54) w (pk K) fun _ w =>
 DoX Tryz.prog (mBin .add 9 (.string ⟨#[35]⟩) t1) w (pk K) fun t57 w =>
 DoX Tryz.prog (mBin .add 9 t57 (.string ⟨#[10, 10]⟩)) w (pk K) fun t58 w =>
 DoX Tryz.prog (mBin .add 9 t58 t46) w (pk K) fun t60 w =>
 DoX Tryz.prog (mBin .add 9 t60 (.string ⟨#[10, 35]⟩)) w (pk K) fun t61 w =>
 DoX Tryz.prog (mBin .add 9 t61 t1) w (pk K) fun t63 w =>
 CallX Tryz.prog 31 #[t63] w (pk K) fun t64 w =>
 DoX Tryz.prog (mExt t64 0) w (pk K) fun t65 w =>
 DoX Tryz.prog (mExt t64 1) w (pk K) fun t66 w =>
 DoX Tryz.prog (mAlloc 36) w (pk K) fun t13 w =>
 DoX Tryz.prog (mStore 36 t13 t66) w (pk K) fun _ w =>
 CallX Tryz.prog 35 #[t53, t0] w (pk K) fun t69 w =>
 DoX Tryz.prog (mUn .not t69) w (pk K) fun t70 w =>
 GDo t70 false (fun E => DoX Tryz.prog (mLoad 36 t11) w (pk K) E) w fun t72 w =>
 GDo t70 false (fun E => DoX Tryz.prog (mBuild 36 #[]) w (pk K) E) w fun t73 w =>
 GDo t70 false (fun E => DoX Tryz.prog (mEq .neq 36 (.tmp 72) (.tmp 73) t72 t73) w (pk K) E) w fun t74 w =>
 DoX Tryz.prog (mPick t70 (.bool true) t74) w (pk K) fun t75 w =>
 GDo t75 false (fun E => E t65 w) w fun t77 w =>
 GDo t75 false (fun E => E t0 w) w fun t78 w =>
 GDo t75 false (fun E => CallX Tryz.prog 35 #[t77, t78] w (pk K) E) w fun t79 w =>
 GDo t75 false (fun E => DoX Tryz.prog (mUn .not t79) w (pk K) E) w fun t80 w =>
 DoX Tryz.prog (mPick t75 (.bool true) t80) w (pk K) fun t81 w =>
 GDo t81 false (fun E => DoX Tryz.prog (mLoad 36 t13) w (pk K) E) w fun t83 w =>
 GDo t81 false (fun E => DoX Tryz.prog (mBuild 36 #[]) w (pk K) E) w fun t84 w =>
 GDo t81 false (fun E => DoX Tryz.prog (mEq .neq 36 (.tmp 83) (.tmp 84) t83 t84) w (pk K) E) w fun t85 w =>
 DoX Tryz.prog (mPick t81 (.bool true) t85) w (pk K) fun t86 w =>
 IfX t86 (K (.returned (.bool false)) w) (J2 [] w)) (J2 [] w)) (fun vs2 w => ∀ _ : Sg, S_foliantlaw55_ScriptBack_1 t2 w K))
def S_foliantlaw55_ScriptBack (t0 t1 t2 : Value) (w : World) (K : Ending → World → Prop) : Prop :=
 CallX Tryz.prog 24 #[] w (pk K) fun t18 w =>
 DoX Tryz.prog (mUn .not t18) w (pk K) fun t19 w =>
 IfX t19 (K (.returned (.bool false)) w) (CallX Tryz.prog 23 #[t0] w (pk K) fun t21 w =>
 DoX Tryz.prog (mUn .not t21) w (pk K) fun t22 w =>
 GDo t22 false (fun E => E t1 w) w fun t24 w =>
 GDo t22 false (fun E => DoX Tryz.prog (mB .len #[9] 3 #[false] #[t24]) w (pk K) E) w fun t25 w =>
 GDo t22 false (fun E => DoX Tryz.prog (mBin .gtr 3 t25 (.int .i64 300)) w (pk K) E) w fun t26 w =>
 DoX Tryz.prog (mPick t22 (.bool true) t26) w (pk K) fun t27 w =>
 GDo t27 false (fun E => E t2 w) w fun t29 w =>
 GDo t27 false (fun E => DoX Tryz.prog (mB .len #[9] 3 #[false] #[t29]) w (pk K) E) w fun t30 w =>
 GDo t27 false (fun E => DoX Tryz.prog (mBin .gtr 3 t30 (.int .i64 3000)) w (pk K) E) w fun t31 w =>
 DoX Tryz.prog (mPick t27 (.bool true) t31) w (pk K) fun t32 w =>
 IfX t32 (K (.returned (.bool true)) w) (LoopX [(.int .i64 0)] w (fun vs1 w N1 => ∀ _ : Sg, S_foliantlaw55_ScriptBack_0 t0 t1 t2 (vs1.getD 0 undef) w N1 K)))
theorem S_foliantlaw55_ScriptBack_eq (t0 t1 t2 : Value) (w : World) (K : Ending → World → Prop) : wpX Tryz.prog 114 [(16, [])] [(6, [7])] none (bodyOf Tryz.f7) (topQ Tryz.prog [.tmp 6] K) (startX [t0, t1, t2]) [] w = S_foliantlaw55_ScriptBack t0 t1 t2 w K := by kernel_rfl
theorem S_foliantlaw55_ScriptBack_ok {t0 t1 t2 : Value} {w : World} {K : Ending → World → Prop} (h : S_foliantlaw55_ScriptBack t0 t1 t2 w K) : Calls Tryz.prog 7 #[t0, t1, t2] w K :=
  calls_of_wpX Tryz.func7 rfl rfl rfl rfl (Eq.mpr (S_foliantlaw55_ScriptBack_eq t0 t1 t2 w K) h)

/- foliantlaw55.ScriptFirst -/
def S_foliantlaw55_ScriptFirst_1 (t12 t13 t14 : Value) (w : World) (K : Ending → World → Prop) : Prop :=
 DoX Tryz.prog (mB .len #[44] 3 #[false] #[t12]) w (pk K) fun t90 w =>
 DoX Tryz.prog (mEq .eql 3 (.tmp 90) (.const (.int .i64 0)) t90 (.int .i64 0)) w (pk K) fun t91 w =>
 GDo t91 true (fun E => DoX Tryz.prog (mLoad 36 t13) w (pk K) E) w fun t93 w =>
 GDo t91 true (fun E => DoX Tryz.prog (mLoad 36 t14) w (pk K) E) w fun t94 w =>
 GDo t91 true (fun E => DoX Tryz.prog (mEq .eql 36 (.tmp 93) (.tmp 94) t93 t94) w (pk K) E) w fun t95 w =>
 DoX Tryz.prog (mPick t91 t95 (.bool false)) w (pk K) fun t96 w =>
 K (.returned t96) w
def S_foliantlaw55_ScriptFirst_0 (t0 t1 t2 t7 : Value) (w : World) (N1 : List Value → World → Prop) (K : Ending → World → Prop) : Prop :=
 DoX Tryz.prog (mB .len #[9] 3 #[false] #[t1]) w (pk K) fun t37 w =>
 DoX Tryz.prog (mBin .lss 3 t7 t37) w (pk K) fun t38 w =>
 IfX t38 (DoX Tryz.prog (mIx 9 t1 t7) w (pk K) fun t43 w =>
 DoX Tryz.prog (mEq .eql 5 (.tmp 43) (.const (.int .u8 10)) t43 (.int .u8 10)) w (pk K) fun t44 w =>
 IfX t44 (K (.returned (.bool true)) w) (DoX Tryz.prog (mBin .add 3 t7 (.int .i64 1)) w (pk K) fun t40 w =>
 N1 [t40] w)) (CallX Tryz.prog 29 #[t0] w (pk K) fun t47 w =>
 DoX Tryz.prog (mExt t47 0) w (pk K) fun t48 w =>
 DoX Tryz.prog (mExt t47 1) w (pk K) fun t49 w =>
 CallX Tryz.prog 27 #[t1] w (pk K) fun t52 w =>
 DoX Tryz.prog (mExt t52 0) w (pk K) fun t53 w =>
 DoX Tryz.prog (mExt t52 1) w (pk K) fun t54 w =>
 DoX Tryz.prog (mAlloc 43) w (pk K) fun t10 w =>
 DoX Tryz.prog (mStore 43 t10 t53) w (pk K) fun _ w =>
 DoX Tryz.prog (mEq .neq 28 (.tmp 55) (.const (.int .i64 0)) t49 (.int .i64 0)) w (pk K) fun t56 w =>
 GDo t56 false (fun E => E t54 w) w fun t58 w =>
 GDo t56 false (fun E => DoX Tryz.prog (mEq .eql 28 (.tmp 58) (.const (.int .i64 0)) t58 (.int .i64 0)) w (pk K) E) w fun t59 w =>
 DoX Tryz.prog (mPick t56 (.bool true) t59) w (pk K) fun t60 w =>
 GDo t60 false (fun E => E t1 w) w fun t62 w =>
 GDo t60 false (fun E => DoX Tryz.prog (mEq .eql 9 (.tmp 62) (.const (.string ⟨#[]⟩)) t62 (.string ⟨#[]⟩)) w (pk K) E) w fun t63 w =>
 DoX Tryz.prog (mPick t60 (.bool true) t63) w (pk K) fun t64 w =>
 GDo t64 false (fun E => E t1 w) w fun t66 w =>
 GDo t64 false (fun E => DoX Tryz.prog (mIx 9 t66 (.int .i64 0)) w (pk K) E) w fun t67 w =>
 GDo t64 false (fun E => DoX Tryz.prog (mEq .eql 5 (.tmp 67) (.const (.int .u8 35)) t67 (.int .u8 35)) w (pk K) E) w fun t68 w =>
 DoX Tryz.prog (mPick t64 (.bool true) t68) w (pk K) fun t69 w =>
 IfX t69 (K (.returned (.bool true)) w) (DoX Tryz.prog (mBin .add 9 t48 t1) w (pk K) fun t73 w =>
 DoX Tryz.prog (mBin .add 9 t73 (.string ⟨#[10]⟩)) w (pk K) fun t74 w =>
 DoX Tryz.prog (mBin .add 9 t74 t2) w (pk K) fun t76 w =>
 CallX Tryz.prog 31 #[t76] w (pk K) fun t77 w =>
 DoX Tryz.prog (mExt t77 0) w (pk K) fun t78 w =>
 DoX Tryz.prog (mExt t77 1) w (pk K) fun t79 w =>
 DoX Tryz.prog (mAlloc 36) w (pk K) fun t13 w =>
 DoX Tryz.prog (mStore 36 t13 t79) w (pk K) fun _ w =>
 DoX Tryz.prog (mB .len #[44] 3 #[false] #[t0]) w (pk K) fun t81 w =>
 DoX Tryz.prog (mBin .add 3 t81 (.int .i64 1)) w (pk K) fun t82 w =>
 DoX Tryz.prog (mBuild 36 #[(0, t82), (1, t54)]) w (pk K) fun t84 w =>
 DoX Tryz.prog (mAlloc 36) w (pk K) fun t14 w =>
 DoX Tryz.prog (mStore 36 t14 t84) w (pk K) fun _ w =>
 JoinX (fun J2 =>
 DoX Tryz.prog (mB .len #[44] 3 #[false] #[t0]) w (pk K) fun t86 w =>
 DoX Tryz.prog (mEq .eql 3 (.tmp 86) (.const (.int .i64 256)) t86 (.int .i64 256)) w (pk K) fun t87 w =>
 IfX t87 (DoX Tryz.prog (mFA 36 t14 1) w (pk K) fun t88 w =>
 DoX Tryz.prog (mStore 28 t88 (.int .i64 6)) w (pk K) fun _ w =>
 J2 [] w) (J2 [] w)) (fun vs2 w => ∀ _ : Sg, S_foliantlaw55_ScriptFirst_1 t78 t13 t14 w K)))
def S_foliantlaw55_ScriptFirst (t0 t1 t2 : Value) (w : World) (K : Ending → World → Prop) : Prop :=
 CallX Tryz.prog 24 #[] w (pk K) fun t15 w =>
 DoX Tryz.prog (mUn .not t15) w (pk K) fun t16 w =>
 IfX t16 (K (.returned (.bool false)) w) (CallX Tryz.prog 23 #[t0] w (pk K) fun t18 w =>
 DoX Tryz.prog (mUn .not t18) w (pk K) fun t19 w =>
 GDo t19 false (fun E => E t1 w) w fun t21 w =>
 GDo t19 false (fun E => DoX Tryz.prog (mB .len #[9] 3 #[false] #[t21]) w (pk K) E) w fun t22 w =>
 GDo t19 false (fun E => DoX Tryz.prog (mBin .gtr 3 t22 (.int .i64 3000)) w (pk K) E) w fun t23 w =>
 DoX Tryz.prog (mPick t19 (.bool true) t23) w (pk K) fun t24 w =>
 GDo t24 false (fun E => E t2 w) w fun t26 w =>
 GDo t24 false (fun E => DoX Tryz.prog (mB .len #[9] 3 #[false] #[t26]) w (pk K) E) w fun t27 w =>
 GDo t24 false (fun E => DoX Tryz.prog (mBin .gtr 3 t27 (.int .i64 3000)) w (pk K) E) w fun t28 w =>
 DoX Tryz.prog (mPick t24 (.bool true) t28) w (pk K) fun t29 w =>
 GDo t29 false (fun E => E t0 w) w fun t31 w =>
 GDo t29 false (fun E => DoX Tryz.prog (mB .len #[44] 3 #[false] #[t31]) w (pk K) E) w fun t32 w =>
 GDo t29 false (fun E => DoX Tryz.prog (mBin .gtr 3 t32 (.int .i64 256)) w (pk K) E) w fun t33 w =>
 DoX Tryz.prog (mPick t29 (.bool true) t33) w (pk K) fun t34 w =>
 IfX t34 (K (.returned (.bool true)) w) (LoopX [(.int .i64 0)] w (fun vs1 w N1 => ∀ _ : Sg, S_foliantlaw55_ScriptFirst_0 t0 t1 t2 (vs1.getD 0 undef) w N1 K)))
theorem S_foliantlaw55_ScriptFirst_eq (t0 t1 t2 : Value) (w : World) (K : Ending → World → Prop) : wpX Tryz.prog 97 [(18, [])] [(6, [7])] none (bodyOf Tryz.f8) (topQ Tryz.prog [.tmp 6] K) (startX [t0, t1, t2]) [] w = S_foliantlaw55_ScriptFirst t0 t1 t2 w K := by kernel_rfl
theorem S_foliantlaw55_ScriptFirst_ok {t0 t1 t2 : Value} {w : World} {K : Ending → World → Prop} (h : S_foliantlaw55_ScriptFirst t0 t1 t2 w K) : Calls Tryz.prog 8 #[t0, t1, t2] w K :=
  calls_of_wpX Tryz.func8 rfl rfl rfl rfl (Eq.mpr (S_foliantlaw55_ScriptFirst_eq t0 t1 t2 w K) h)

end Go.Proofs.YtjajlcacbbnodaaGreatDoor
/- Rules for operations that wait for nothing under a held condition; contract: foliantlaw55.lives. -/
namespace Go.Proofs.YtjajlcacbbnodaaGreatDoor
set_option linter.unusedVariables false
set_option linter.unusedSimpArgs false
set_option linter.defProp false
open Eng Go.RowKit

section
variable {P : Program} {S : World → Prop} {K : Value → Prop}
theorem h_do {m : Sem Next} (v : Value) (h : ∀ w, S w → m.run P w = .ok (.value v) w) (k : K v) : HDo P S m K := ⟨v, h, k⟩
theorem h_pure {m : Sem Next} (v : Value) (h : ∀ w, m.run P w = .ok (.value v) w) (k : K v) : HDo P S m K := ⟨v, fun w _ => h w, k⟩
theorem h_ieq {T : TypeId} {xo yo : Operand} {k : IntKind} {a b : Int} (h : K (.bool (decide (a = b)))) : HDo P S (mEq .eql T xo yo (.int k a) (.int k b)) K := h_pure _ (fun _ => mv_run (by simp [eqGuard, binOp, Op.intCmp, int_beq])) h
theorem h_seq {T : TypeId} {xo yo : Operand} {a b : List UInt8} (h : K (.bool (decide (a = b)))) : HDo P S (mEq .eql T xo yo (.string ⟨a.toArray⟩) (.string ⟨b.toArray⟩)) K := by
  refine h_pure _ (fun _ => mv_run ?_) h
  have e : (a == b) = decide (a = b) := by by_cases h : a = b <;> simp [h]
  simp [eqGuard, binOp, Op.stringOp, str_toList, e]
theorem h_pick {c : Bool} {a b : Value} (h : K (if c then a else b)) : HDo P S (mPick (.bool c) a b) K := h_pure _ (fun _ => by simp [mPick, asBool]) h
theorem h_pt {a b : Value} (h : K a) : HDo P S (mPick (.bool true) a b) K := h_pick h
end
section
variable {w : World}
theorem r_steq {xo yo : Operand} {x y : Sc.Step} : (mEq .eql 43 xo yo (stV x) (stV y)).run Tryz.prog w = .ok (.value (.bool (decide (x = y)))) w := by
  rw [← st_beq]; exact run_eql_agg eqSt rfl
theorem r_flteq {xo yo : Operand} {x y : Int × Int} : (mEq .eql 36 xo yo (fltV x) (fltV y)).run Tryz.prog w = .ok (.value (.bool (decide (x = y)))) w := by
  rw [← flt_beq]; exact run_eql_agg eqFlt rfl
theorem n_flt {PK : List PanicEntry → World → Prop} {K : Value → World → Prop} {xo yo : Operand} {x y : Int × Int} : DoX Tryz.prog (mEq .neq 36 xo yo (fltV x) (fltV y)) w PK K = K (.bool (!decide (x = y))) w := by
  refine do_eq ?_
  rw [← flt_beq]; exact run_neq_agg eqFlt rfl
end
theorem sms_l : Sc.line ⟨3, 4, 0, [40, 92, 10], []⟩ = ([112, 117, 116, 32, 52, 32, 40, 92, 40, 92, 92, 92, 48, 49, 50, 41], 0) := by decide +kernel
theorem sms_p1 : Sc.parse [112, 117, 116, 32, 52, 32, 40, 92, 40, 92, 92, 92, 48, 49, 50, 41] = (⟨3, 4, 0, [40, 92, 10], []⟩, 0) := by decide +kernel
theorem sms_p2 : Sc.parse [112, 117, 116, 32, 48, 52, 32, 40, 41] = (Sc.none', 33) := by decide +kernel
theorem sms_p3 : Sc.parse [115, 97, 118, 101] = (Sc.none', 33) := by decide +kernel
theorem sms_p4 : Sc.parse [102, 105, 108, 108, 32, 40, 97, 41, 32, 40, 41] = (⟨9, 0, 0, [97], []⟩, 0) := by decide +kernel
theorem sms_t : Sc.text [⟨10, 0, 0, [], []⟩, ⟨7, 1, 2, [], []⟩] = ([99, 108, 101, 97, 110, 10, 109, 111, 118, 101, 32, 49, 32, 50, 10], 0) := by decide +kernel
theorem sms_r1 : Sc.read [35, 32, 115, 111, 10, 10, 99, 108, 101, 97, 110, 10, 110, 97, 109, 101, 32, 40, 120, 41, 32, 48] = ([⟨10, 0, 0, [], []⟩, ⟨8, 0, 0, [120], []⟩], (0, 0)) := by decide +kernel
theorem sms_r2 : Sc.read [99, 108, 101, 97, 110, 10, 99, 108, 101, 97, 110, 32, 10] = ([], (2, 33)) := by decide +kernel
theorem sms_a1 : Sc.tell 0 2 [[120]] = [[111, 107, 32, 50, 32, 49], [120]] := by decide +kernel
theorem sms_a2 : Sc.tell 8 0 [] = [[101, 114, 114, 111, 114, 32, 56]] := by decide +kernel
set_option maxRecDepth 100000 in
theorem slives_ret (w : World) (ht : Tb w) (hsp : Sp w) : Ret Tryz.prog 24 #[] w (fun v w' => v = .bool true ∧ Below w.heap.size w w') := by
  refine ret_of fun K hK => S_foliantlaw55_lives_ok ?_
  unfold S_foliantlaw55_lives
  have m1 : ∀ {w : World} {PK : List PanicEntry → World → Prop} {K : Value → World → Prop}, DoX Tryz.prog (mBuild 43 #[(0, (.int .i64 3)), (1, (.int .i64 4)), (3, (.string ⟨#[40, 92, 10]⟩))]) w PK K = K (stV ⟨3, 4, 0, [40, 92, 10], []⟩) w := do_eq (by kernel_rfl)
  have m2 : ∀ {w : World} {PK : List PanicEntry → World → Prop} {K : Value → World → Prop}, DoX Tryz.prog (mBuild 43 #[(0, (.int .i64 7)), (1, (.int .i64 1)), (2, (.int .i64 2))]) w PK K = K (stV ⟨7, 1, 2, [], []⟩) w := do_eq (by kernel_rfl)
  have m3 : ∀ {w : World} {PK : List PanicEntry → World → Prop} {K : Value → World → Prop}, DoX Tryz.prog (mBuild 43 #[(0, (.int .i64 9)), (3, (.string ⟨#[97]⟩))]) w PK K = K (stV ⟨9, 0, 0, [97], []⟩) w := do_eq (by kernel_rfl)
  have m4 : ∀ {w : World} {PK : List PanicEntry → World → Prop} {K : Value → World → Prop}, DoX Tryz.prog (mBuild 43 #[(0, (.int .i64 8)), (3, (.string ⟨#[120]⟩))]) w PK K = K (stV ⟨8, 0, 0, [120], []⟩) w := do_eq (by kernel_rfl)
  have m5 : ∀ {a b : Int} {w : World} {PK : List PanicEntry → World → Prop} {K : Value → World → Prop}, DoX Tryz.prog (mBuild 43 #[(0, (.int .i64 a)), (1, (.int .i64 b))]) w PK K = K (stV ⟨a, b, 0, [], []⟩) w := do_eq (by kernel_rfl)
  rw [m1]
  refine c_told (scline_ret _ w ht hsp) (by rw [sms_l]) (Own.start w) fun w1 ho => ?_
  simp only [strErrV, ex]
  refine c_told (sparse_ret [112, 117, 116, 32, 52, 32, 40, 92, 40, 92, 92, 92, 48, 49, 50, 41] w1 (ht.own ho) (hsp.own ho) (by decide)) (by rw [sms_p1]) ho fun w2 ho => ?_
  simp only [parV, ex]
  refine o_sta ho fun b3 w3 ho => ?_
  refine st_set 0 ⟨3, 4, 0, [40, 92, 10], []⟩ ho rfl fun w4 ho => ?_
  refine c_told (sparse_ret [112, 117, 116, 32, 48, 52, 32, 40, 41] w4 (ht.own ho) (hsp.own ho) (by decide)) (by rw [sms_p2]) ho fun w5 ho => ?_
  simp only [parV, ex]
  refine o_sta ho fun b5 w6 ho => ?_
  refine st_set 0 Sc.none' ho rfl fun w7 ho => ?_
  refine c_told (sparse_ret [115, 97, 118, 101] w7 (ht.own ho) (hsp.own ho) (by decide)) (by rw [sms_p3]) ho fun w8 ho => ?_
  simp only [parV, ex]
  refine o_sta ho fun b7 w9 ho => ?_
  refine st_set 0 Sc.none' ho rfl fun w10 ho => ?_
  refine c_told (sparse_ret [102, 105, 108, 108, 32, 40, 97, 41, 32, 40, 41] w10 (ht.own ho) (hsp.own ho) (by decide)) (by rw [sms_p4]) ho fun w11 ho => ?_
  simp only [parV, ex]
  refine o_sta ho fun b9 w12 ho => ?_
  refine st_set 0 ⟨9, 0, 0, [97], []⟩ ho rfl fun w13 ho => ?_
  rw [m_stk, m2]
  refine o_new (fun b => .slice (some ⟨b, 0, none⟩) 2 2) ([⟨10, 0, 0, [], []⟩, ⟨7, 1, 2, [], []⟩].flatMap stC) 43 (fun _ => by kernel_rfl) ho fun nb w14 ho => ?_
  have hsl : Sl w14 (.slice (some ⟨nb, 0, none⟩) 2 2) 5 ([⟨10, 0, 0, [], []⟩, ⟨7, 1, 2, [], []⟩] : List Sc.Step).length ([⟨10, 0, 0, [], []⟩, ⟨7, 1, 2, [], []⟩].flatMap stC) := ho.sl 0 rfl 5 2 2 rfl
  refine c_told (stext_ret _ _ w14 (ht.own ho) (hsp.own ho) hsl) (by rw [sms_t]) ho fun w15 ho => ?_
  simp only [strErrV, ex]
  refine c_ret (sread_ret [35, 32, 115, 111, 10, 10, 99, 108, 101, 97, 110, 10, 110, 97, 109, 101, 32, 40, 120, 41, 32, 48] w15 (ht.own ho) (hsp.own ho) (by decide)) ?_
  rintro _ w16 ⟨v1, rfl, hn⟩
  rw [sms_r1] at hn ⊢
  have ho := ho.join hn
  simp only [ex]
  refine o_flt ho fun b14 w17 ho => ?_
  refine flt_put (g := (0, 0)) 0 ho rfl fun w18 ho => ?_
  refine c_ret (sread_ret [99, 108, 101, 97, 110, 10, 99, 108, 101, 97, 110, 32, 10] w18 (ht.own ho) (hsp.own ho) (by decide)) ?_
  rintro _ w19 ⟨v2, rfl, hn⟩
  rw [sms_r2] at hn ⊢
  have ho := ho.join hn
  simp only [ex]
  refine o_flt ho fun b16 w20 ho => ?_
  refine flt_put (g := (2, 33)) 0 ho rfl fun w21 ho => ?_
  refine o_new (fun b => .slice (some ⟨b, 0, none⟩) 1 1) [.string ⟨#[120]⟩] 9 (fun _ => by kernel_rfl) ho fun nb2 w22 ho => ?_
  have ma1 : ∀ {w : World} {PK : List PanicEntry → World → Prop} {K : Value → World → Prop}, DoX Tryz.prog (mBuild 46 #[(1, (.int .i64 2)), (2, .slice (some ⟨nb2, 0, none⟩) 1 1)]) w PK K = K (anV 0 2 (.slice (some ⟨nb2, 0, none⟩) 1 1)) w := do_eq (by kernel_rfl)
  have ma2 : ∀ {w : World} {PK : List PanicEntry → World → Prop} {K : Value → World → Prop}, DoX Tryz.prog (mBuild 46 #[(0, (.int .i64 8))]) w PK K = K (anV 8 0 (.slice none 0 0)) w := do_eq (by kernel_rfl)
  rw [ma1]
  have hsl2 : Sl w22 (.slice (some ⟨nb2, 0, none⟩) 1 1) 1 ([[120]] : List (List UInt8)).length (strsV [[120]]) := ho.sl 0 rfl 1 1 1 rfl
  refine c_ret (stell_ret 0 2 _ [[120]] w22 (ht.own ho) (by omega) (by omega) (by omega) (by omega) (by decide) hsl2) ?_
  rintro u1 w23 hn
  rw [sms_a1] at hn
  have ho := ho.join hn
  rw [ma2]
  refine c_ret (stell_ret 8 0 _ [] w23 (ht.own ho) (by omega) (by omega) (by omega) (by omega) (by decide) (Sl.nil w23 1 0)) ?_
  rintro u2 w24 hn
  rw [sms_a2] at hn
  have ho := ho.join hn
  have ho : Own w w24 [StrRow u2 [[101, 114, 114, 111, 114, 32, 56]], StrRow u1 [[111, 107, 32, 50, 32, 49], [120]], .cells nb2 [.string ⟨#[120]⟩] 9, fltE b16 (2, 33), SRow v2 [], fltE b14 (0, 0), SRow v1 [⟨10, 0, 0, [], []⟩, ⟨8, 0, 0, [120], []⟩],
    .cells nb ([⟨10, 0, 0, [], []⟩, ⟨7, 1, 2, [], []⟩].flatMap stC) 43, stE b9 ⟨9, 0, 0, [97], []⟩, stE b7 Sc.none', stE b5 Sc.none', stE b3 ⟨3, 4, 0, [40, 92, 10], []⟩] := ho
  have f14 : ∀ {PK : List PanicEntry → World → Prop} {K : Value → World → Prop}, DoX Tryz.prog (mLoad 36 (.pointer (some ⟨b14, 0, none⟩))) w24 PK K = K (fltV (0, 0)) w24 := l_at (ho.agg 5 rfl aggFlt)
  have f16 : ∀ {PK : List PanicEntry → World → Prop} {K : Value → World → Prop}, DoX Tryz.prog (mLoad 36 (.pointer (some ⟨b16, 0, none⟩))) w24 PK K = K (fltV (2, 33)) w24 := l_at (ho.agg 3 rfl aggFlt)
  simp only [rs, m1, m3, st_v ho 11 rfl, st_v ho 8 rfl, n_st, ne_eq, not_true, eq_self, decide_false, decide_true, Bool.not_true, not_true_eq_false]
  rw [sl_len Tryz.underlying44 (srow_sl 6 ho rfl)]
  have hl2 : ((2 : Nat) : Int) = 2 := rfl
  simp only [rs, List.length_cons, List.length_nil, Nat.zero_add, Nat.reduceAdd, hl2, ne_eq, not_true, eq_self, decide_false]
  obtain ⟨g, off, cap, rfl, hc⟩ := sl_open (srow_sl 6 ho rfl) (by decide)
  have ia1 : ∀ {PK : List PanicEntry → World → Prop} {K : Value → World → Prop}, DoX Tryz.prog (mIA 44 (.slice (some ⟨g, off, none⟩) ([⟨10, 0, 0, [], []⟩, ⟨8, 0, 0, [120], []⟩] : List Sc.Step).length cap) (.int .i64 1)) w24 PK K = K (.pointer (some ⟨g, off + 5, none⟩)) w24 := do_eq (run_ia Tryz.underlying44 (show _ = some 5 by kernel_rfl) (by decide) (by decide))
  have la1 : ∀ {PK : List PanicEntry → World → Prop} {K : Value → World → Prop}, DoX Tryz.prog (mLoad 43 (.pointer (some ⟨g, off + 5, none⟩))) w24 PK K = K (stV ⟨8, 0, 0, [120], []⟩) w24 := l_at (st_at (l := [⟨10, 0, 0, [], []⟩, ⟨8, 0, 0, [120], []⟩]) hc (k := 1) (by decide))
  obtain ⟨g1, off1, cap1, rfl, hc1⟩ := sl_open (ho.slRow 1 rfl) (by decide)
  obtain ⟨g2, off2, cap2, rfl, hc2⟩ := sl_open (ho.slRow 0 rfl) (by decide)
  have len1 : ∀ {PK : List PanicEntry → World → Prop} {K : Value → World → Prop}, DoX Tryz.prog (mB .len #[22] 3 #[false] #[.slice (some ⟨g1, off1, none⟩) ([[111, 107, 32, 50, 32, 49], [120]] : List (List UInt8)).length cap1]) w24 PK K = K (.int .i64 2) w24 := sl_len_any Tryz.underlying22
  have len2 : ∀ {PK : List PanicEntry → World → Prop} {K : Value → World → Prop}, DoX Tryz.prog (mB .len #[22] 3 #[false] #[.slice (some ⟨g2, off2, none⟩) ([[101, 114, 114, 111, 114, 32, 56]] : List (List UInt8)).length cap2]) w24 PK K = K (.int .i64 1) w24 := sl_len_any Tryz.underlying22
  have i10 : ∀ {PK : List PanicEntry → World → Prop} {K : Value → World → Prop}, DoX Tryz.prog (mIA 22 (.slice (some ⟨g1, off1, none⟩) ([[111, 107, 32, 50, 32, 49], [120]] : List (List UInt8)).length cap1) (.int .i64 0)) w24 PK K = K (.pointer (some ⟨g1, off1 + 0, none⟩)) w24 := do_eq (run_ia Tryz.underlying22 (show _ = some 1 by kernel_rfl) (by decide) (by decide))
  have i11 : ∀ {PK : List PanicEntry → World → Prop} {K : Value → World → Prop}, DoX Tryz.prog (mIA 22 (.slice (some ⟨g1, off1, none⟩) ([[111, 107, 32, 50, 32, 49], [120]] : List (List UInt8)).length cap1) (.int .i64 1)) w24 PK K = K (.pointer (some ⟨g1, off1 + 1, none⟩)) w24 := do_eq (run_ia Tryz.underlying22 (show _ = some 1 by kernel_rfl) (by decide) (by decide))
  have i20 : ∀ {PK : List PanicEntry → World → Prop} {K : Value → World → Prop}, DoX Tryz.prog (mIA 22 (.slice (some ⟨g2, off2, none⟩) ([[101, 114, 114, 111, 114, 32, 56]] : List (List UInt8)).length cap2) (.int .i64 0)) w24 PK K = K (.pointer (some ⟨g2, off2 + 0, none⟩)) w24 := do_eq (run_ia Tryz.underlying22 (show _ = some 1 by kernel_rfl) (by decide) (by decide))
  have l10 : ∀ {PK : List PanicEntry → World → Prop} {K : Value → World → Prop}, DoX Tryz.prog (mLoad 9 (.pointer (some ⟨g1, off1 + 0, none⟩))) w24 PK K = K (.string ⟨#[111, 107, 32, 50, 32, 49]⟩) w24 := l_cell nStr (hc1 0 _ rfl)
  have l11 : ∀ {PK : List PanicEntry → World → Prop} {K : Value → World → Prop}, DoX Tryz.prog (mLoad 9 (.pointer (some ⟨g1, off1 + 1, none⟩))) w24 PK K = K (.string ⟨#[120]⟩) w24 := l_cell nStr (hc1 1 _ rfl)
  have l20 : ∀ {PK : List PanicEntry → World → Prop} {K : Value → World → Prop}, DoX Tryz.prog (mLoad 9 (.pointer (some ⟨g2, off2 + 0, none⟩))) w24 PK K = K (.string ⟨#[101, 114, 114, 111, 114, 32, 56]⟩) w24 := l_cell nStr (hc2 0 _ rfl)
  simp only [rs, ia1, la1, m4, n_st, n_flt, f14, f16, m_flt0, m_flt2, len1, len2, i10, i11, i20, l10, l11, l20, ne_eq, not_true, eq_self, decide_false, decide_true, Bool.not_true, not_true_eq_false, m_st0]
  refine c_told (scheck_ret Sc.none' w24) rfl ho fun w25 ho => ?_
  simp only [show Sc.check Sc.none' = 10 by decide +kernel, rs, eq_self, decide_true, m5]
  refine c_told (scheck_ret ⟨10, 1, 0, [], []⟩ w25) rfl ho fun w26 ho => ?_
  simp only [show Sc.check ⟨10, 1, 0, [], []⟩ = 10 by decide +kernel, rs, eq_self, decide_true, m5]
  refine c_told (scheck_ret ⟨11, -1, 0, [], []⟩ w26) rfl ho fun w27 ho => ?_
  simp only [show Sc.check ⟨11, -1, 0, [], []⟩ = 2 by decide +kernel, rs, eq_self, decide_true, m_stk]
  refine c_told (scheck_ret ⟨21, 0, 0, [], []⟩ w27) rfl ho fun w28 ho => ?_
  simp only [show Sc.check ⟨21, 0, 0, [], []⟩ = 0 by decide +kernel, rs, eq_self, decide_true, m_stk]
  refine c_told (scheck_ret ⟨22, 0, 0, [], []⟩ w28) rfl ho fun w29 ho => ?_
  simp only [show Sc.check ⟨22, 0, 0, [], []⟩ = 10 by decide +kernel, rs, eq_self, decide_true]
  exact hK _ _ ⟨rfl, ho.done⟩
end Go.Proofs.YtjajlcacbbnodaaGreatDoor
/- The law ScriptTells. -/
namespace Go.Proofs.YtjajlcacbbnodaaGreatDoor
set_option linter.unusedVariables false
set_option linter.unusedSimpArgs false
set_option linter.defProp false
open Eng Go.RowKit

theorem readG_len : ∀ (ls : List (List UInt8)) (n : Nat) (acc l : List Sc.Step), acc.length ≤ 256 → Sc.readG n acc ls = .inl l → l.length ≤ 256
  | [], n, acc, l, ha, h => by
    rw [Sc.readG] at h
    cases h; exact ha
  | x :: ls, n, acc, l, ha, h => by
    rw [Sc.readG] at h
    split at h
    · exact readG_len ls _ acc l ha h
    split at h
    · cases h
    split at h
    · cases h
    · exact readG_len ls _ _ l (by simp; omega) h
theorem sread_len (s : List UInt8) : (Sc.read s).1.length ≤ 256 := by
  unfold Sc.read
  split
  · simp
  · split
    · rename_i l h; exact readG_len _ _ _ _ (by simp) h
    · simp
theorem scriptTells_ret (x : Sc.Step) (line : List UInt8) (l : List Sc.Step) (v : Value) (text : List UInt8) (e n : Int) (va : Value) (ls : List (List UInt8)) (W : World) (ht : Tb W) (hsp : Sp W) (hx : Kind64 x)
    (hk : ∀ y ∈ l, Kind64 y) (hs : Sl W v 5 l.length (l.flatMap stC)) (hl : l.length ≤ 9223372036854775807) (ha : Sl W va 1 ls.length (strsV ls)) (he1 : e ≤ 9223372036854775807) (hn1 : n ≤ 9223372036854775807) :
    Ret Tryz.prog 6 #[stV x, .string ⟨line.toArray⟩, v, .string ⟨text.toArray⟩, anV e n va] W (fun r w' => r = .bool true ∧ Below W.heap.size W w') := by
  refine ret_of fun K hK => S_foliantlaw55_ScriptTells_ok ?_
  unfold S_foliantlaw55_ScriptTells
  refine o_stb x (Own.start W) fun b5 w1 ho => ?_
  refine o_anb e n va (sl_one ha) ho fun b9 w2 ho => ?_
  have ho : Own W w2 [anE b9 e n va, stE b5 x] := ho
  rw [st_v ho 1 rfl]
  refine o_new (fun b => .slice (some ⟨b, 0, none⟩) 1 1) (stC x) 43 (fun _ => by kernel_rfl) ho fun nb w3 ho => ?_
  have hs1 : Sl w3 (.slice (some ⟨nb, 0, none⟩) 1 1) 5 [x].length ([x].flatMap stC) := by simpa using ho.sl 0 rfl 5 1 1 rfl
  refine c_ret (light_ret [x] _ w3 hs1 (by simp)) ?_
  rintro _ w4 ⟨⟨q1, rfl, hq1⟩, hb⟩
  have ho := ho.grow hb
  have out : ∀ (W' : World) (L : List Ent), Own W W' L → CallX Tryz.prog 24 #[] W' (pk K) fun t w => K (.returned t) w := by
    intro W' L ho
    exact c_told (slives_ret W' (ht.own ho) (hsp.own ho)) rfl ho fun w' ho => hK _ _ ⟨rfl, ho.done⟩
  cases q1 with
  | false =>
    simp only [rs, Bool.not_false, g_un]
    exact out w4 _ ho
  | true =>
  simp only [rs, Bool.not_true]
  refine c_ret (light_ret l v w4 (ho.oldSl hs) hl) ?_
  rintro _ w5 ⟨⟨q2, rfl, hq2⟩, hb⟩
  have ho := ho.grow hb
  cases q2 with
  | false =>
    simp only [rs, Bool.not_false, g_un]
    exact out w5 _ ho
  | true =>
  have hli := hq2 rfl
  have ho : Own W w5 [.cells nb (stC x) 43, anE b9 e n va, stE b5 x] := ho
  have l0 : ∀ {PK : List PanicEntry → World → Prop} {K : Value → World → Prop}, DoX Tryz.prog (mLoad 28 (.pointer (some ⟨b9, 0, none⟩))) w5 PK K = K (.int .i64 e) w5 := l_cell nErr (ho.cell 1 rfl 0 rfl)
  have l1 : ∀ {PK : List PanicEntry → World → Prop} {K : Value → World → Prop}, DoX Tryz.prog (mLoad 3 (.pointer (some ⟨b9, 1, none⟩))) w5 PK K = K (.int .i64 n) w5 := l_cell nInt (ho.cell 1 rfl 1 rfl)
  have l2 : ∀ {PK : List PanicEntry → World → Prop} {K : Value → World → Prop}, DoX Tryz.prog (mLoad 22 (.pointer (some ⟨b9, 2, none⟩))) w5 PK K = K va w5 := l_cell nSlStr (ho.cell 1 rfl 2 rfl)
  have ln : ∀ {PK : List PanicEntry → World → Prop} {K : Value → World → Prop}, DoX Tryz.prog (mB .len #[22] 3 #[false] #[va]) w5 PK K = K (.int .i64 (ls.length : Int)) w5 := sl_len Tryz.underlying22 (ho.oldSl ha)
  by_cases g3 : (3000 : Int) < (line.length : Int)
  · simp only [rs, Bool.not_true, s_len Tryz.underlying9, g3, decide_true, g_un]
    exact out w5 _ ho
  by_cases g4 : (6000 : Int) < (text.length : Int)
  · simp only [rs, Bool.not_true, s_len Tryz.underlying9, g3, g4, decide_true, decide_false, g_un]
    exact out w5 _ ho
  by_cases g5 : (40 : Int) < (ls.length : Int)
  · simp only [rs, Bool.not_true, s_len Tryz.underlying9, g3, g4, g5, fa_a2, l2, ln, decide_true, decide_false, g_un]
    exact out w5 _ ho
  by_cases g6 : n < -4611686018427387904
  · simp only [rs, Bool.not_true, s_len Tryz.underlying9, g3, g4, g5, g6, fa_a2, fa_a1, l1, l2, ln, decide_true, decide_false, g_un]
    exact out w5 _ ho
  by_cases g7 : e < 0
  · simp only [rs, Bool.not_true, s_len Tryz.underlying9, g3, g4, g5, g6, g7, fa_a2, fa_a1, fa_a0, l0, l1, l2, ln, decide_true, decide_false, g_un]
    exact out w5 _ ho
  simp only [rs, Bool.not_true, s_len Tryz.underlying9, g3, g4, g5, g6, g7, fa_a2, fa_a1, fa_a0, l0, l1, l2, ln, decide_false]
  rw [st_v ho 2 rfl]
  refine c_told (scline_ret x w5 (ht.own ho) (hsp.own ho)) rfl ho fun w6 ho => ?_
  simp only [strErrV, ex, st_v ho 2 rfl]
  refine c_told (rsline_ret x w6 hx.1 hx.2) rfl ho fun w7 ho => ?_
  simp only [strErrV, ex]
  refine c_told (sparse_ret line w7 (ht.own ho) (hsp.own ho) (by omega)) rfl ho fun w8 ho => ?_
  simp only [parV, ex]
  refine o_sta ho fun b15 w9 ho => ?_
  refine st_set 0 (Sc.parse line).1 ho rfl fun w10 ho => ?_
  refine c_told (rparse_ret line w10 (by omega)) rfl ho fun w11 ho => ?_
  simp only [parV, ex]
  refine o_sta ho fun b17 w12 ho => ?_
  refine st_set 0 (Sc.parse line).1 ho rfl fun w13 ho => ?_
  refine c_told (stext_ret l v w13 (ht.own ho) (hsp.own ho) (ho.oldSl hs)) rfl ho fun w14 ho => ?_
  simp only [strErrV, ex]
  refine c_told (rstext_ret l v w14 hk (ho.oldSl hs) (by have := hli.1; omega)) rfl ho fun w15 ho => ?_
  simp only [strErrV, ex]
  refine c_ret (sread_ret text w15 (ht.own ho) (hsp.own ho) (by omega)) ?_
  rintro _ w16 ⟨v96, rfl, hn⟩
  have ho := ho.join hn
  simp only [ex]
  refine o_flt ho fun b24 w17 ho => ?_
  refine flt_put (g := (Sc.read text).2) 0 ho rfl fun w18 ho => ?_
  refine c_ret (rsread_ret text w18 (by omega)) ?_
  rintro _ w19 ⟨v101, rfl, hn⟩
  have ho := ho.join hn
  simp only [ex]
  refine o_flt ho fun b26 w20 ho => ?_
  refine flt_put (g := (Sc.read text).2) 0 ho rfl fun w21 ho => ?_
  have ho : Own W w21 ([] ++ [fltE b26 (Sc.read text).2, SRow v101 (Sc.read text).1, fltE b24 (Sc.read text).2, SRow v96 (Sc.read text).1, stE b17 (Sc.parse line).1, stE b15 (Sc.parse line).1, .cells nb (stC x) 43, anE b9 e n va, stE b5 x]) := ho
  generalize hL0 : [fltE b26 (Sc.read text).2, SRow v101 (Sc.read text).1, fltE b24 (Sc.read text).2, SRow v96 (Sc.read text).1, stE b17 (Sc.parse line).1, stE b15 (Sc.parse line).1, .cells nb (stC x) 43, anE b9 e n va, stE b5 x] = L0 at ho
  have back : ∀ {X : List Ent} {W' : World}, Own W W' (X ++ L0) → Own W W' L0 := fun h => h.sub (List.sublist_append_right _ _)
  refine ⟨fun W' => ∃ X, Own W W' (X ++ L0), ⟨[], ho.drew⟩, ?_⟩
  have ho := ho.drew
  refine h_do (stV x) (fun W' ⟨X, h⟩ => run_load_at ((back h).agg 8 (by rw [← hL0]; rfl) aggSt)) ?_
  refine h_do (stV x) (fun W' ⟨X, h⟩ => run_load_at ((back h).agg 8 (by rw [← hL0]; rfl) aggSt)) ?_
  refine c_told (scheck_ret x _) rfl ho fun w23 ho => ?_
  refine ⟨⟨[], ho⟩, ?_⟩
  refine c_told (rcheck_ret x _ hx.1 hx.2) rfl ho fun w24 ho => ?_
  refine ⟨⟨[], ho⟩, ?_⟩
  refine h_ieq ?_
  simp only [eq_self, decide_true, gq]
  refine h_seq ?_
  simp only [eq_self, decide_true]
  refine h_pt ?_
  simp only [gq]
  refine h_ieq ?_
  simp only [eq_self, decide_true]
  refine h_pt ?_
  simp only [gq]
  refine h_do (stV (Sc.parse line).1) (fun W' ⟨X, h⟩ => run_load_at ((back h).agg 5 (by rw [← hL0]; rfl) aggSt)) ?_
  refine h_do (stV (Sc.parse line).1) (fun W' ⟨X, h⟩ => run_load_at ((back h).agg 4 (by rw [← hL0]; rfl) aggSt)) ?_
  refine h_pure _ (fun _ => r_steq) ?_
  simp only [eq_self, decide_true]
  refine h_pt ?_
  simp only [gq]
  refine h_ieq ?_
  simp only [eq_self, decide_true]
  refine h_pt ?_
  simp only [gq]
  refine h_seq ?_
  simp only [eq_self, decide_true]
  refine h_pt ?_
  simp only [gq]
  refine h_ieq ?_
  simp only [eq_self, decide_true]
  refine h_pt ?_
  simp only [gq, g_tt]
  have hrl := sread_len text
  refine c_told (ssame_ret v96 v101 (Sc.read text).1 (Sc.read text).1 w24 (srow_sl 3 (back ho) (by rw [← hL0]; rfl)) (srow_sl 1 (back ho) (by rw [← hL0]; rfl)) (by omega)) rfl ho fun w25 ho => ?_
  refine ⟨⟨[], ho⟩, ?_⟩
  simp only [eq_self, decide_true]
  refine h_pt ?_
  simp only [gq]
  refine h_do (fltV (Sc.read text).2) (fun W' ⟨X, h⟩ => run_load_at ((back h).agg 2 (by rw [← hL0]; rfl) aggFlt)) ?_
  refine h_do (fltV (Sc.read text).2) (fun W' ⟨X, h⟩ => run_load_at ((back h).agg 0 (by rw [← hL0]; rfl) aggFlt)) ?_
  refine h_pure _ (fun _ => r_flteq) ?_
  simp only [eq_self, decide_true]
  refine h_pt ?_
  simp only [gq]
  refine h_do (anV e n va) (fun W' ⟨X, h⟩ => run_load_at ((back h).agg 7 (by rw [← hL0]; rfl) (show aggN Tryz.prog 46 = some 3 by kernel_rfl))) ?_
  refine h_do (anV e n va) (fun W' ⟨X, h⟩ => run_load_at ((back h).agg 7 (by rw [← hL0]; rfl) (show aggN Tryz.prog 46 = some 3 by kernel_rfl))) ?_
  simp only [g_tt]
  refine c_ret (stell_ret e n va ls w25 (ht.own ho) (by omega) (by omega) (by omega) (by omega) (by omega) (ho.oldSl ha)) ?_
  rintro u1 w26 hn
  have ho := ho.join hn
  refine ⟨⟨[StrRow u1 (Sc.tell e n ls)], ho⟩, ?_⟩
  refine c_ret (rtell_ret e n va ls w26 (by omega) (by omega) (by omega) (by omega) (by omega) (ho.oldSl ha)) ?_
  rintro u2 w27 hn
  have ho := ho.join hn
  refine ⟨⟨[StrRow u2 (Sc.tell e n ls), StrRow u1 (Sc.tell e n ls)], ho⟩, ?_⟩
  have htl : (Sc.tell e n ls).length ≤ 1099511627776 := by
    unfold Sc.tell
    split
    · simp
    · simp only [List.length_cons]; omega
  refine c_told (rtexts_ret u1 u2 (Sc.tell e n ls) (Sc.tell e n ls) w27 (ho.slRow 1 rfl) (ho.slRow 0 rfl) htl) rfl ho fun w28 ho => ?_
  refine ⟨⟨[StrRow u2 (Sc.tell e n ls), StrRow u1 (Sc.tell e n ls)], ho⟩, ?_⟩
  simp only [eq_self, decide_true]
  refine h_pt ?_
  simp only [g_tt]
  refine c_told (slives_ret w28 (ht.own ho) (hsp.own ho)) rfl ho fun w29 ho => ?_
  refine ⟨⟨[StrRow u2 (Sc.tell e n ls), StrRow u1 (Sc.tell e n ls)], ho⟩, ?_⟩
  refine h_pt ?_
  exact hK _ _ ⟨rfl, ho.done⟩
end Go.Proofs.YtjajlcacbbnodaaGreatDoor
/- Plain mathematics of layer 55: lines of what is written. -/
namespace Go.Proofs.YtjajlcacbbnodaaGreatDoor
set_option linter.unusedVariables false
set_option linter.unusedSimpArgs false
set_option linter.defProp false
open Go
namespace Sc
open Lx
theorem lines_app : ∀ (a t : List UInt8), (10 : UInt8) ∉ a → lines (a ++ 10 :: t) = a :: lines t
  | [], t, _ => by simp [lines]
  | c :: a, t, h => by
    simp only [List.mem_cons, not_or] at h
    rw [List.cons_append, lines, if_neg (fun e => h.1 e.symm), lines_app a t h.2]
theorem lines_one : ∀ a : List UInt8, (10 : UInt8) ∉ a → lines a = [a]
  | [], _ => rfl
  | c :: a, h => by
    simp only [List.mem_cons, not_or] at h
    rw [lines, if_neg (fun e => h.1 e.symm), lines_one a h.2]
theorem esc_no10 (c : UInt8) : (10 : UInt8) ∉ Pl.esc c := all8 (p := fun c => (10 : UInt8) ∉ Pl.esc c) (by decide +kernel) c
theorem str_no10 (l : List UInt8) : (10 : UInt8) ∉ Pl.str l := by
  rw [Pl.str]
  simp only [List.mem_append, List.mem_cons, List.not_mem_nil, or_false, List.mem_flatMap, not_or, not_exists, not_and]
  exact ⟨⟨by decide, fun c _ => esc_no10 c⟩, by decide⟩
theorem itoa_no10 (n : Int) : (10 : UInt8) ∉ Lib.itoa n := by
  rcases Pl.itoa_shape n with ⟨u, _, e⟩ | ⟨u, _, _, e⟩ <;> rw [e]
  · exact Pl.dec_no u 10 rfl
  · simp only [List.mem_cons, not_or]
    exact ⟨by decide, Pl.dec_no u 10 rfl⟩
theorem words_no10 : ∀ i : Fin 21, (10 : UInt8) ∉ words.getD i.val [] := by decide
theorem field_no10 (x : Step) (c : UInt8) : (10 : UInt8) ∉ field x c := by
  unfold field
  split
  · exact itoa_no10 _
  split
  · exact itoa_no10 _
  split
  · exact str_no10 _
  split
  · exact str_no10 _
  · simp
theorem line_no10 {x : Step} {l : List UInt8} (h : line x = (l, 0)) : (10 : UInt8) ∉ l := by
  obtain ⟨hc, rfl, _⟩ := line_zero h
  obtain ⟨u, hu, h1, h2, _⟩ := check_zero hc
  rw [lineT, hu, Option.getD_some]
  simp only [List.mem_append, not_or, fields, List.mem_flatMap, not_exists, not_and, List.mem_cons]
  exact ⟨words_no10 ⟨x.k.toNat - 1, by omega⟩, fun c _ => ⟨by decide, field_no10 x c⟩⟩
/-- A line that is written is not empty and no remark. -/
theorem line_head {x : Step} {l : List UInt8} (h : line x = (l, 0)) : ¬ (l = [] ∨ l.head? = some 35) := by
  obtain ⟨hc, rfl, _⟩ := line_zero h
  obtain ⟨u, hu, h1, h2, _⟩ := check_zero hc
  have : ∀ i : Fin 21, ∃ c t, words.getD i.val [] = c :: t ∧ c ≠ 35 := by
    intro i
    have h : ∀ i : Fin 21, (words.getD i.val []).head?.any (fun c => decide (c ≠ 35)) = true := by decide
    have := h i
    cases hw : words.getD i.val [] with
    | nil => rw [hw] at this; simp at this
    | cons c t => rw [hw] at this; exact ⟨c, t, rfl, by simpa using this⟩
  obtain ⟨c, t, e, hc⟩ := this ⟨x.k.toNat - 1, by omega⟩
  simp only at e
  rw [lineT, word, e]
  simp [hc]
end Sc
end Go.Proofs.YtjajlcacbbnodaaGreatDoor
/- Plain mathematics of layer 55: reading what was written. -/
namespace Go.Proofs.YtjajlcacbbnodaaGreatDoor
set_option linter.unusedVariables false
set_option linter.unusedSimpArgs false
set_option linter.defProp false
open Go
namespace Sc
open Lx
/-- The steps of a text, one by one: their lines. -/
theorem textG_ok : ∀ (l : List Step) (acc s : List UInt8), textG acc l = (s, 0) → (∀ x ∈ l, ∃ t, line x = (t, 0)) ∧ s = acc ++ l.flatMap (fun x => (line x).1 ++ [10])
  | [], acc, s, h => by
    injection h with h _
    subst h
    simp
  | x :: l, acc, s, h => by
    rw [textG] at h
    split at h
    · rename_i hc
      injection h with _ h2
      exact absurd h2 hc
    · rename_i hc
      have he : (line x).2 = 0 := by omega
      obtain ⟨h1, h2⟩ := textG_ok l _ s h
      refine ⟨fun y hy => ?_, ?_⟩
      · rcases List.mem_cons.1 hy with rfl | hy
        · exact ⟨(line y).1, by rw [← he]⟩
        · exact h1 y hy
      · rw [h2]; simp
/-- Reading goes over the lines of steps that are written. -/
theorem readG_steps : ∀ (l : List Step) (n : Nat) (acc : List Step) (r : List (List UInt8)), (∀ x ∈ l, ∃ t, line x = (t, 0)) → acc.length + l.length ≤ 256 →
    readG n acc (l.map (fun x => (line x).1) ++ r) = readG (n + l.length) (acc ++ l) r
  | [], n, acc, r, _, _ => by simp
  | x :: l, n, acc, r, h, hl => by
    obtain ⟨t, ht⟩ := h x (List.mem_cons_self ..)
    have hp := parse_back ht
    rw [List.length_cons] at hl
    rw [List.map_cons, List.cons_append, readG, ht]
    simp only
    rw [if_neg (line_head ht), if_neg (by omega), hp, if_neg (by simp)]
    have ih := readG_steps l (n + 1) (acc ++ [x]) r (fun y hy => h y (List.mem_cons_of_mem _ hy)) (by simp; omega)
    rw [ih, List.length_cons]
    simp only [List.append_assoc, List.singleton_append]
    congr 1
    omega
theorem lines_steps : ∀ (l : List Step) (r : List UInt8), (∀ x ∈ l, ∃ t, line x = (t, 0)) → lines (l.flatMap (fun x => (line x).1 ++ [10]) ++ r) = l.map (fun x => (line x).1) ++ lines r
  | [], r, _ => by simp
  | x :: l, r, h => by
    obtain ⟨t, ht⟩ := h x (List.mem_cons_self ..)
    have hn := line_no10 ht
    have ih := lines_steps l r fun y hy => h y (List.mem_cons_of_mem _ hy)
    rw [List.flatMap_cons, ht]
    simp only [List.append_assoc, List.singleton_append]
    rw [List.cons_append, lines_app t _ hn, ih, List.map_cons, ht]; rfl
theorem text_ok {l : List Step} {s : List UInt8} (h : text l = (s, 0)) : l.length ≤ 256 ∧ (∀ x ∈ l, ∃ t, line x = (t, 0)) ∧ s = l.flatMap (fun x => (line x).1 ++ [10]) := by
  unfold text at h
  split at h
  · injection h with _ h2; omega
  · obtain ⟨h1, h2⟩ := textG_ok l [] s h
    exact ⟨by omega, h1, by simpa using h2⟩
/-- Read reverses Text. -/
theorem read_back {l : List Step} {s : List UInt8} (h : text l = (s, 0)) (hs : s.length ≤ 1048576) : read s = (l, (0, 0)) := by
  obtain ⟨hl, h1, h2⟩ := text_ok h
  have e := lines_steps l [] h1
  rw [List.append_nil, ← h2] at e
  have hr := readG_steps l 0 [] (lines []) h1 (by simpa using hl)
  rw [← e, List.nil_append] at hr
  unfold read
  rw [if_neg (by omega), hr, show lines [] = [[]] from rfl, readG, if_pos (.inl rfl), readG]
/-- .. also with remarks and empty lines around. -/
theorem read_remarks {l : List Step} {s m : List UInt8} (h : text l = (s, 0)) (hm : (10 : UInt8) ∉ m) (hs : ((35 :: m) ++ 10 :: 10 :: (s ++ 10 :: (35 :: m))).length ≤ 1048576) :
    read ((35 :: m) ++ 10 :: 10 :: (s ++ 10 :: (35 :: m))) = (l, (0, 0)) := by
  obtain ⟨hl, h1, h2⟩ := text_ok h
  have h35 : (10 : UInt8) ∉ 35 :: m := by simp [hm]
  have e0 := lines_steps l (10 :: (35 :: m)) h1
  rw [← h2] at e0
  have e1 : lines (10 :: (35 :: m)) = [[], 35 :: m] := by
    rw [lines, if_pos rfl, lines_one _ h35]
  have e2 : lines ((35 :: m) ++ 10 :: 10 :: (s ++ 10 :: (35 :: m))) = (35 :: m) :: [] :: (l.map (fun x => (line x).1) ++ [[], 35 :: m]) := by
    rw [lines_app _ _ h35, lines, if_pos rfl, e0, e1]
  unfold read
  rw [if_neg (by omega), e2, readG, if_pos (.inr rfl), readG, if_pos (.inl rfl), readG_steps l _ [] _ h1 (by simpa using hl), readG, if_pos (.inl rfl), readG, if_pos (.inr rfl), readG, List.nil_append]
/-- The first line that is none tells the fault, whatever follows. -/
theorem read_first {l : List Step} {s b m : List UInt8} (h : text l = (s, 0)) (hb : (10 : UInt8) ∉ b) (hne : ¬ (b = [] ∨ b.head? = some 35)) (hp : (parse b).2 ≠ 0) (hs : (s ++ (b ++ 10 :: m)).length ≤ 1048576) :
    read (s ++ (b ++ 10 :: m)) = ([], ((l.length : Int) + 1, if l.length = 256 then 6 else (parse b).2)) := by
  obtain ⟨hl, h1, h2⟩ := text_ok h
  have e0 := lines_steps l (b ++ 10 :: m) h1
  rw [← h2, lines_app _ _ hb] at e0
  unfold read
  rw [if_neg (by omega), e0, readG_steps l _ [] _ h1 (by simpa using hl), readG, if_neg hne, List.nil_append]
  by_cases h256 : l.length = 256
  · rw [if_pos h256, if_pos h256]; simp
  · rw [if_neg h256, if_neg h256, if_pos hp]; simp
end Sc
end Go.Proofs.YtjajlcacbbnodaaGreatDoor
/- The laws ScriptBack and ScriptFirst. -/
namespace Go.Proofs.YtjajlcacbbnodaaGreatDoor
set_option linter.unusedVariables false
set_option linter.unusedSimpArgs false
set_option linter.defProp false
open Eng Go.RowKit
 attribute [local congr] g_congr

theorem escs_len : ∀ l : List UInt8, (l.flatMap Pl.esc).length ≤ 4 * l.length
  | [] => by simp
  | c :: l => by
    have h1 := (Pl.esc_len c).2
    have h2 := escs_len l
    rw [List.flatMap_cons, List.length_append, List.length_cons]; omega
theorem field_len2 (x : Sc.Step) (h : Sc.check x = 0) (c : UInt8) : (Sc.field x c).length ≤ 40 + 4 * (x.s.length + x.t.length) := by
  obtain ⟨_, _, _, _, _, _, _, _, ha0, ha1, hb0, hb1, hs, ht⟩ := Sc.check_zero h
  have hst : ∀ l : List UInt8, (Pl.str l).length ≤ 4 * l.length + 2 := by
    intro l
    have := escs_len l
    rw [Pl.str]
    simp only [List.length_append, List.length_cons, List.length_nil]; omega
  unfold Sc.field
  split
  · have := itoa_len30 (n := x.a) (by omega) (by omega); omega
  split
  · have := itoa_len30 (n := x.b) (by omega) (by omega); omega
  split
  · have := hst x.s; omega
  split
  · have := hst x.t; omega
  · simp
theorem fields_len2 (x : Sc.Step) (h : Sc.check x = 0) : ∀ u : List UInt8, (Sc.fields x u).length ≤ (41 + 4 * (x.s.length + x.t.length)) * u.length
  | [] => by simp [Sc.fields]
  | c :: u => by
    have h1 := field_len2 x h c
    have ih := fields_len2 x h u
    rw [Sc.fields_cons, List.length_cons, List.length_append, List.length_cons, Nat.mul_add]; omega
theorem uses_two : ∀ i : Fin 21, (Sc.usesL.getD i.val []).length ≤ 2 := by decide
theorem line_len2 {x : Sc.Step} {t : List UInt8} (h : Sc.line x = (t, 0)) : t.length ≤ 100 + 8 * (x.s.length + x.t.length) := by
  obtain ⟨hc, rfl, _⟩ := Sc.line_zero h
  obtain ⟨u, hu, k1, k2, _⟩ := Sc.check_zero hc
  have hul : u.length ≤ 2 := by
    have := Sc.uses_some k1 k2
    rw [hu] at this
    have := Option.some.inj this
    rw [this]
    exact uses_two ⟨x.k.toNat - 1, by omega⟩
  have hwl : (Sc.word x.k).length ≤ 8 := words_short ⟨x.k.toNat - 1, by omega⟩
  have hf := fields_len2 x hc u
  have : (41 + 4 * (x.s.length + x.t.length)) * u.length ≤ (41 + 4 * (x.s.length + x.t.length)) * 2 := Nat.mul_le_mul_left _ hul
  rw [Sc.lineT, hu, Option.getD_some, List.length_append]
  omega
theorem text_len2 : ∀ (l : List Sc.Step), (∀ x ∈ l, ∃ t, Sc.line x = (t, 0)) → (l.flatMap (fun x => (Sc.line x).1 ++ [10])).length ≤ 101 * l.length + 8 * wt l
  | [], _ => by simp
  | x :: l, h => by
    obtain ⟨t, ht⟩ := h x (by simp)
    have h1 := line_len2 ht
    have ih := text_len2 l fun y hy => h y (by simp [hy])
    rw [List.flatMap_cons, List.length_append, List.length_append, ht, List.length_singleton]
    simp only [wt, List.map_cons, List.sum_cons, List.length_cons] at ih ⊢
    omega
theorem light_text {l : List Sc.Step} {s : List UInt8} (hli : Light l) (h : Sc.text l = (s, 0)) : s.length ≤ 200000 := by
  obtain ⟨h1, h2, rfl⟩ := Sc.text_ok h
  have := text_len2 l h2
  have := hli.2.2
  omega
theorem no10_take {m : List UInt8} {i : Nat} (h : (10 : UInt8) ∉ m.take i) (hi : i < m.length) (hc : m[i] ≠ 10) : (10 : UInt8) ∉ m.take (i + 1) := by
  rw [List.take_add_one, List.getElem?_eq_getElem hi]
  simp only [Option.toList, List.mem_append, List.mem_singleton, not_or]
  exact ⟨h, fun e => hc e.symm⟩
theorem scriptBack_ret (l : List Sc.Step) (v : Value) (m line : List UInt8) (W : World) (ht : Tb W) (hsp : Sp W) (hs : Sl W v 5 l.length (l.flatMap stC)) (hl : l.length ≤ 9223372036854775807) :
    Ret Tryz.prog 7 #[v, .string ⟨m.toArray⟩, .string ⟨line.toArray⟩] W (fun r w' => r = .bool true ∧ Below W.heap.size W w') := by
  refine ret_of fun K hK => S_foliantlaw55_ScriptBack_ok ?_
  unfold S_foliantlaw55_ScriptBack
  refine c_told (slives_ret W ht hsp) rfl (Own.start W) fun w1 ho => ?_
  simp only [rs, Bool.not_true]
  refine c_ret (light_ret l v w1 (ho.oldSl hs) hl) ?_
  rintro _ w2 ⟨⟨q, rfl, hq⟩, hb⟩
  have ho := ho.grow hb
  cases q with
  | false =>
    simp only [rs, Bool.not_false, g_un]
    exact hK _ _ ⟨rfl, ho.done⟩
  | true =>
  have hli := hq rfl
  by_cases g1 : (300 : Int) < (m.length : Int)
  · simp only [rs, Bool.not_true, s_len Tryz.underlying9, g1, decide_true, g_un]
    exact hK _ _ ⟨rfl, ho.done⟩
  by_cases g2 : (3000 : Int) < (line.length : Int)
  · simp only [rs, Bool.not_true, s_len Tryz.underlying9, g1, g2, decide_true, decide_false, g_un]
    exact hK _ _ ⟨rfl, ho.done⟩
  simp only [rs, Bool.not_true, s_len Tryz.underlying9, g1, g2, decide_false]
  refine loop (fun vs w' => ∃ (i : Nat), vs = [.int .i64 i] ∧ i ≤ m.length ∧ (10 : UInt8) ∉ m.take i ∧ Own W w' []) (fun vs _ => m.length - n0 vs) ⟨0, rfl, by omega, by simp, ho⟩ ?_
  rintro vs w3 ⟨i, rfl, hi, hm, ho⟩ _
  simp only [S_foliantlaw55_ScriptBack_0, gd, s_len Tryz.underlying9, rs]
  by_cases hlt : (i : Int) < (m.length : Int)
  · have hi' : i < m.length := by omega
    have hx : ∀ {PK : List PanicEntry → World → Prop} {K : Value → World → Prop}, DoX Tryz.prog (mIx 9 (.string ⟨m.toArray⟩) (.int .i64 (i : Int))) w3 PK K = K (.int .u8 (m[i].toNat : Int)) w3 := s_ix (c := m[i]) Tryz.underlying9 (Int.natCast_nonneg i) (by simp [hi'])
    simp only [hlt, decide_true, rs, hx]
    by_cases h10 : m[i] = 10
    · have e : (m[i].toNat : Int) = 10 := by rw [h10]; rfl
      simp only [e, decide_true, i_t]
      exact hK _ _ ⟨rfl, ho.done⟩
    · have e : ¬ (m[i].toNat : Int) = 10 := fun h => h10 (UInt8.toNat_inj.1 (by have : (10 : UInt8).toNat = 10 := rfl; omega))
      simp only [e, decide_false, i_f]
      rw [wrap64_id (by omega) (by omega)]
      exact nextX ⟨i + 1, rfl, by omega, no10_take hm hi' h10, ho⟩ (by simp [n0, intOf]; omega)
  rw [List.take_of_length_le (by omega)] at hm
  simp only [hlt, decide_false, i_f]
  refine c_told (stext_ret l v w3 (ht.own ho) (hsp.own ho) (ho.oldSl hs)) rfl ho fun w4 ho => ?_
  simp only [strErrV, ex]
  refine join fun J hJ => ?_
  -- what follows: the line
  have fin : ∀ (w : World) (L : List Ent), Own W w L → J [] w := by
    intro w L ho
    refine hJ _ _ fun _ => ?_
    clear hJ
    unfold S_foliantlaw55_ScriptBack_1
    refine c_told (sparse_ret line w (ht.own ho) (hsp.own ho) (by omega)) rfl ho fun w5 ho => ?_
    simp only [parV, ex]
    refine o_sta ho fun b14 w6 ho => ?_
    refine st_set 0 (Sc.parse line).1 ho rfl fun w7 ho => ?_
    have ho : Own W w7 (stE b14 (Sc.parse line).1 :: L) := ho
    rcases Sc.parse_spec line with ⟨x, hx, hp⟩ | ⟨_, hp⟩
    · obtain ⟨hc, _, _⟩ := Sc.line_zero hx
      rw [hp] at ho ⊢
      simp only [rs, ne_eq, not_true, decide_false, st_v ho 0 rfl]
      refine c_told (scline_ret x w7 (ht.own ho) (hsp.own ho)) rfl ho fun w8 ho => ?_
      rw [hx]
      simp only [strErrV, ex, rs, eq_self, decide_true, st_v ho 0 rfl]
      refine c_told (scheck_ret x w8) rfl ho fun w9 ho => ?_
      rw [hc]
      simp only [rs, eq_self, decide_true]
      exact hK _ _ ⟨rfl, ho.done⟩
    · rw [hp] at ho ⊢
      have hne : (if 65535 < line.length then (5 : Int) else 33) ≠ 0 := by split <;> decide
      simp only [rs, decide_eq_true hne, st_v ho 0 rfl, m_st0, e_st, eq_self, decide_true]
      exact hK _ _ ⟨rfl, ho.done⟩
  by_cases hw : (Sc.text l).2 = 0
  case neg =>
    simp only [rs, hw, decide_false]
    exact fin w4 _ ho
  simp only [rs, hw, decide_true]
  have htx : Sc.text l = ((Sc.text l).1, 0) := by rw [← hw]
  generalize (Sc.text l).1 = s at *
  have hsl := light_text hli htx
  refine c_ret (sread_ret s w4 (ht.own ho) (hsp.own ho) (by omega)) ?_
  rintro _ w5 ⟨v53, rfl, hn⟩
  rw [Sc.read_back htx (by omega)] at hn ⊢
  have ho := ho.join hn
  simp only [ex]
  refine o_flt ho fun b11 w6 ho => ?_
  refine flt_put (g := (0, 0)) 0 ho rfl fun w7 ho => ?_
  have ho : Own W w7 [fltE b11 (0, 0), SRow v53 l] := ho
  refine do_eq (run_s_add (a := [35]) (b := m) (by simp; omega)) |>.mpr ?_
  refine do_eq (run_s_add (a := [35] ++ m) (b := [10, 10]) (by simp; omega)) |>.mpr ?_
  refine do_eq (run_s_add (a := [35] ++ m ++ [10, 10]) (b := s) (by simp; omega)) |>.mpr ?_
  refine do_eq (run_s_add (a := [35] ++ m ++ [10, 10] ++ s) (b := [10, 35]) (by simp; omega)) |>.mpr ?_
  refine do_eq (run_s_add (a := [35] ++ m ++ [10, 10] ++ s ++ [10, 35]) (b := m) (by simp; omega)) |>.mpr ?_
  have et : [35] ++ m ++ [10, 10] ++ s ++ [10, 35] ++ m = (35 :: m) ++ 10 :: 10 :: (s ++ 10 :: (35 :: m)) := by simp
  rw [et]
  have etl : ((35 :: m) ++ 10 :: 10 :: (s ++ 10 :: (35 :: m))).length ≤ 1048576 := by simp; omega
  refine c_ret (sread_ret _ w7 (ht.own ho) (hsp.own ho) (by omega)) ?_
  rintro _ w8 ⟨v65, rfl, hn⟩
  rw [Sc.read_remarks htx hm etl] at hn ⊢
  have ho := ho.join hn
  simp only [ex]
  refine o_flt ho fun b13 w9 ho => ?_
  refine flt_put (g := (0, 0)) 0 ho rfl fun w10 ho => ?_
  have ho : Own W w10 [fltE b13 (0, 0), SRow v65 l, fltE b11 (0, 0), SRow v53 l] := ho
  refine c_told (ssame_ret v53 v l l w10 (srow_sl 3 ho rfl) (ho.oldSl hs) (by have := hli.1; omega)) rfl ho fun w11 ho => ?_
  have f11 : ∀ {PK : List PanicEntry → World → Prop} {K : Value → World → Prop}, DoX Tryz.prog (mLoad 36 (.pointer (some ⟨b11, 0, none⟩))) w11 PK K = K (fltV (0, 0)) w11 := l_at (ho.agg 2 rfl aggFlt)
  simp only [rs, decide_true, eq_self, Bool.not_true, f11, m_flt0, n_flt]
  refine c_told (ssame_ret v65 v l l w11 (srow_sl 1 ho rfl) (ho.oldSl hs) (by have := hli.1; omega)) rfl ho fun w12 ho => ?_
  have f13 : ∀ {PK : List PanicEntry → World → Prop} {K : Value → World → Prop}, DoX Tryz.prog (mLoad 36 (.pointer (some ⟨b13, 0, none⟩))) w12 PK K = K (fltV (0, 0)) w12 := l_at (ho.agg 0 rfl aggFlt)
  simp only [rs, decide_true, eq_self, Bool.not_true, f13, m_flt0, n_flt]
  exact fin w12 _ ho
theorem scriptFirst_ret (l : List Sc.Step) (v : Value) (b more : List UInt8) (W : World) (ht : Tb W) (hsp : Sp W) (hs : Sl W v 5 l.length (l.flatMap stC)) (hl : l.length ≤ 9223372036854775807) :
    Ret Tryz.prog 8 #[v, .string ⟨b.toArray⟩, .string ⟨more.toArray⟩] W (fun r w' => r = .bool true ∧ Below W.heap.size W w') := by
  refine ret_of fun K hK => S_foliantlaw55_ScriptFirst_ok ?_
  unfold S_foliantlaw55_ScriptFirst
  refine c_told (slives_ret W ht hsp) rfl (Own.start W) fun w1 ho => ?_
  simp only [rs, Bool.not_true]
  refine c_ret (light_ret l v w1 (ho.oldSl hs) hl) ?_
  rintro _ w2 ⟨⟨q, rfl, hq⟩, hb⟩
  have ho := ho.grow hb
  cases q with
  | false =>
    simp only [rs, Bool.not_false, g_un]
    exact hK _ _ ⟨rfl, ho.done⟩
  | true =>
  have hli := hq rfl
  by_cases g1 : (3000 : Int) < (b.length : Int)
  · simp only [rs, Bool.not_true, s_len Tryz.underlying9, g1, decide_true, g_un]
    exact hK _ _ ⟨rfl, ho.done⟩
  by_cases g2 : (3000 : Int) < (more.length : Int)
  · simp only [rs, Bool.not_true, s_len Tryz.underlying9, g1, g2, decide_true, decide_false, g_un]
    exact hK _ _ ⟨rfl, ho.done⟩
  have hln : ∀ {w : World} {L : List Ent}, Own W w L → ∀ {PK : List PanicEntry → World → Prop} {K : Value → World → Prop}, DoX Tryz.prog (mB .len #[44] 3 #[false] #[v]) w PK K = K (.int .i64 (l.length : Int)) w := fun ho => sl_len Tryz.underlying44 (ho.oldSl hs)
  by_cases g3 : (256 : Int) < (l.length : Int)
  · simp only [rs, Bool.not_true, s_len Tryz.underlying9, g1, g2, g3, hln ho, decide_true, decide_false, g_un]
    exact hK _ _ ⟨rfl, ho.done⟩
  simp only [rs, Bool.not_true, s_len Tryz.underlying9, g1, g2, g3, hln ho, decide_false]
  refine loop (fun vs w' => ∃ (i : Nat), vs = [.int .i64 i] ∧ i ≤ b.length ∧ (10 : UInt8) ∉ b.take i ∧ Own W w' []) (fun vs _ => b.length - n0 vs) ⟨0, rfl, by omega, by simp, ho⟩ ?_
  rintro vs w3 ⟨i, rfl, hi, hm, ho⟩ _
  simp only [S_foliantlaw55_ScriptFirst_0, gd, s_len Tryz.underlying9, rs]
  by_cases hlt : (i : Int) < (b.length : Int)
  · have hi' : i < b.length := by omega
    have hx : ∀ {PK : List PanicEntry → World → Prop} {K : Value → World → Prop}, DoX Tryz.prog (mIx 9 (.string ⟨b.toArray⟩) (.int .i64 (i : Int))) w3 PK K = K (.int .u8 (b[i].toNat : Int)) w3 := s_ix (c := b[i]) Tryz.underlying9 (Int.natCast_nonneg i) (by simp [hi'])
    simp only [hlt, decide_true, rs, hx]
    by_cases h10 : b[i] = 10
    · have e : (b[i].toNat : Int) = 10 := by rw [h10]; rfl
      simp only [e, decide_true, i_t]
      exact hK _ _ ⟨rfl, ho.done⟩
    · have e : ¬ (b[i].toNat : Int) = 10 := fun h => h10 (UInt8.toNat_inj.1 (by have : (10 : UInt8).toNat = 10 := rfl; omega))
      simp only [e, decide_false, i_f]
      rw [wrap64_id (by omega) (by omega)]
      exact nextX ⟨i + 1, rfl, by omega, no10_take hm hi' h10, ho⟩ (by simp [n0, intOf]; omega)
  rw [List.take_of_length_le (by omega)] at hm
  simp only [hlt, decide_false, i_f]
  refine c_told (stext_ret l v w3 (ht.own ho) (hsp.own ho) (ho.oldSl hs)) rfl ho fun w4 ho => ?_
  simp only [strErrV, ex]
  refine c_told (sparse_ret b w4 (ht.own ho) (hsp.own ho) (by omega)) rfl ho fun w5 ho => ?_
  simp only [parV, ex]
  refine o_sta ho fun b10 w6 ho => ?_
  refine st_set 0 (Sc.parse b).1 ho rfl fun w7 ho => ?_
  have ho : Own W w7 [stE b10 (Sc.parse b).1] := ho
  by_cases hw : (Sc.text l).2 = 0
  case neg =>
    simp only [rs, ne_eq, hw, not_false_eq_true, decide_true, g_un]
    exact hK _ _ ⟨rfl, ho.done⟩
  by_cases hp : (Sc.parse b).2 = 0
  · simp only [rs, ne_eq, hw, hp, not_true, decide_true, decide_false, g_un]
    exact hK _ _ ⟨rfl, ho.done⟩
  have e0 : ∀ {xo yo : Operand} {w : World} {PK : List PanicEntry → World → Prop} {K : Value → World → Prop}, DoX Tryz.prog (mEq .eql 9 xo yo (.string ⟨b.toArray⟩) (.string ⟨#[]⟩)) w PK K = K (.bool (decide (b = []))) w := e_str (b := [])
  have hb0 : b = [] ∨ b ≠ [] := by by_cases h : b = [] <;> simp [h]
  rcases hb0 with rfl | hbn
  · simp only [rs, ne_eq, hw, hp, not_true, not_false_eq_true, decide_true, decide_false, g_un, e0]
    exact hK _ _ ⟨rfl, ho.done⟩
  have hpos : 0 < b.length := List.length_pos_iff.2 hbn
  have hx0 : ∀ {PK : List PanicEntry → World → Prop} {K : Value → World → Prop}, DoX Tryz.prog (mIx 9 (.string ⟨b.toArray⟩) (.int .i64 0)) w7 PK K = K (.int .u8 (b[0].toNat : Int)) w7 := s_ix (c := b[0]) Tryz.underlying9 (by decide) (by simp [hpos])
  by_cases h35 : b[0] = 35
  · have e : (b[0].toNat : Int) = 35 := by rw [h35]; rfl
    simp only [rs, ne_eq, hw, hp, not_true, not_false_eq_true, decide_true, decide_false, g_un, e0, hbn, hx0, e]
    exact hK _ _ ⟨rfl, ho.done⟩
  have e : ¬ (b[0].toNat : Int) = 35 := fun h => h35 (UInt8.toNat_inj.1 (by have : (35 : UInt8).toNat = 35 := rfl; omega))
  simp only [rs, ne_eq, hw, hp, not_true, not_false_eq_true, decide_true, decide_false, e0, hbn, hx0, e]
  have htx : Sc.text l = ((Sc.text l).1, 0) := by rw [← hw]
  generalize (Sc.text l).1 = s at *
  have hsl := light_text hli htx
  rw [s_add (by omega)]
  refine do_eq (run_s_add (a := s ++ b) (b := [10]) (by simp; omega)) |>.mpr ?_
  rw [s_add (by simp; omega)]
  have et : s ++ b ++ [10] ++ more = s ++ (b ++ 10 :: more) := by simp
  rw [et]
  have etl : (s ++ (b ++ 10 :: more)).length ≤ 1048576 := by simp; omega
  have hne : ¬ (b = [] ∨ b.head? = some 35) := by
    rintro (h | h)
    · exact hbn h
    · rw [List.head?_eq_getElem?, List.getElem?_eq_getElem hpos] at h
      exact h35 (Option.some.inj h)
  refine c_ret (sread_ret _ w7 (ht.own ho) (hsp.own ho) (by omega)) ?_
  rintro _ w8 ⟨v78, rfl, hn⟩
  rw [Sc.read_first htx hm hne hp etl] at hn ⊢
  have ho := ho.join hn
  simp only [ex]
  refine o_flt ho fun b13 w9 ho => ?_
  refine flt_put (g := ((l.length : Int) + 1, if l.length = 256 then 6 else (Sc.parse b).2)) 0 ho rfl fun w10 ho => ?_
  rw [hln ho, b_add, wrap64_id (by omega) (by omega), m_flt2]
  refine o_flt ho fun b14 w11 ho => ?_
  refine flt_put (g := ((l.length : Int) + 1, (Sc.parse b).2)) 0 ho rfl fun w12 ho => ?_
  have ho : Own W w12 [fltE b14 ((l.length : Int) + 1, (Sc.parse b).2), fltE b13 ((l.length : Int) + 1, if l.length = 256 then 6 else (Sc.parse b).2), SRow v78 [], stE b10 (Sc.parse b).1] := ho
  refine join fun J hJ => ?_
  have fin : ∀ (w : World), Own W w [fltE b14 ((l.length : Int) + 1, if l.length = 256 then 6 else (Sc.parse b).2), fltE b13 ((l.length : Int) + 1, if l.length = 256 then 6 else (Sc.parse b).2), SRow v78 [], stE b10 (Sc.parse b).1] → J [] w := by
    intro w ho
    refine hJ _ _ fun _ => ?_
    unfold S_foliantlaw55_ScriptFirst_1
    rw [sl_len Tryz.underlying44 (srow_sl 2 ho rfl)]
    have f13 : ∀ {PK : List PanicEntry → World → Prop} {K : Value → World → Prop}, DoX Tryz.prog (mLoad 36 (.pointer (some ⟨b13, 0, none⟩))) w PK K = K (fltV ((l.length : Int) + 1, if l.length = 256 then 6 else (Sc.parse b).2)) w := l_at (ho.agg 1 rfl aggFlt)
    have f14 : ∀ {PK : List PanicEntry → World → Prop} {K : Value → World → Prop}, DoX Tryz.prog (mLoad 36 (.pointer (some ⟨b14, 0, none⟩))) w PK K = K (fltV ((l.length : Int) + 1, if l.length = 256 then 6 else (Sc.parse b).2)) w := l_at (ho.agg 0 rfl aggFlt)
    have z : ((([] : List Sc.Step).length : Nat) : Int) = 0 := rfl
    simp only [rs, z, eq_self, decide_true, f13, f14, e_flt]
    exact hK _ _ ⟨rfl, ho.done⟩
  rw [hln ho]
  simp only [rs]
  by_cases h256 : l.length = 256
  · have e256 : ((l.length : Nat) : Int) = 256 := by omega
    simp only [e256, decide_true, i_t, fa_f1]
    rw [if_pos h256] at fin ho
    refine o_store 0 ho rfl (v := .int .i64 6) (by kernel_rfl) rfl (by simp [fltC]) fun w13 ho => ?_
    exact fin w13 (by simpa [e256, fltE, fltC] using ho)
  · have e256 : ¬ ((l.length : Nat) : Int) = 256 := by omega
    simp only [e256, decide_false, i_f]
    rw [if_neg h256] at fin ho
    exact fin w12 ho
end Go.Proofs.YtjajlcacbbnodaaGreatDoor
/- Bounds of integers of a kind. -/
namespace Go.Proofs.YtjajlcacbbnodaaGreatDoor
set_option linter.unusedVariables false
set_option linter.unusedSimpArgs false
set_option linter.defProp false
open Eng Go.RowKit
end Go.Proofs.YtjajlcacbbnodaaGreatDoor
/- Objects in memory: what a value of the type api.Object says. -/
namespace Go.Proofs.YtjajlcacbbnodaaGreatDoor
set_option linter.unusedVariables false
set_option linter.unusedSimpArgs false
set_option linter.defProp false
open Eng Go.RowKit Go.ChangeShapes Go.WideShapes

inductive Ob where
  | mk (k n g : Int) (s : List UInt8) (keys : List (List UInt8)) (kids : List Ob)
namespace Ob
def k : Ob → Int | .mk k _ _ _ _ _ => k
def n : Ob → Int | .mk _ n _ _ _ _ => n
def g : Ob → Int | .mk _ _ g _ _ _ => g
def s : Ob → List UInt8 | .mk _ _ _ s _ _ => s
def keys : Ob → List (List UInt8) | .mk _ _ _ _ keys _ => keys
def kids : Ob → List Ob | .mk _ _ _ _ _ kids => kids
 mutual
/-- How much an object holds. -/
def wt : Ob → Nat
  | .mk _ _ _ s keys kids => 6 + s.length + Pl.tot keys + wts kids
def wts : List Ob → Nat
  | [] => 0
  | o :: os => wt o + wts os
end
end Ob
/-- A slice whose memory lies in blocks of A. -/
def SlA (A : Nat → Prop) (w : World) (v : Value) (sz n : Nat) (cs : List Value) : Prop := Sl w v sz n cs ∧ ∀ p l c, v = .slice (some p) l c → 0 < n → A p.block
 mutual
/-- The value v is the object o, its memory in blocks of A. -/
def OV (A : Nat → Prop) (w : World) : Value → Ob → Prop
  | v, .mk k n g s keys kids => ∃ vk vc cs, v = .agg #[.int .i64 k, .int .i64 n, .int .i64 g, .string ⟨s.toArray⟩, vk, vc] ∧ SlA A w vk 1 keys.length (strsV keys) ∧ SlA A w vc 6 kids.length cs ∧ OVs A w cs kids
def OVs (A : Nat → Prop) (w : World) : List Value → List Ob → Prop
  | cs, [] => cs = []
  | cs, o :: os => ∃ (a rest : List Value), cs = a ++ rest ∧ a.length = 6 ∧ OV A w (.agg a.toArray) o ∧ OVs A w rest os
end
/-- Blocks of A are as they were. -/
def Kept (A : Nat → Prop) (w w' : World) : Prop := ∀ b, A b → w'.heap[b]? = w.heap[b]?
theorem cell_kept {A : Nat → Prop} {w w' : World} (h : Kept A w w') {p : Addr} {v : Value} (hp : A p.block) (hc : w.cell? p = some v) : w'.cell? p = some v := by
  have := h p.block hp
  unfold World.cell? at hc ⊢
  rw [this]; exact hc
theorem SlA.kept {A : Nat → Prop} {w w' : World} {v : Value} {sz n : Nat} {cs : List Value} (h : SlA A w v sz n cs) (hk : Kept A w w') : SlA A w' v sz n cs := by
  obtain ⟨⟨hl, a, cap, rfl, h1, h2⟩, hA⟩ := h
  refine ⟨⟨hl, a, cap, rfl, h1, fun p hp => ?_⟩, hA⟩
  obtain ⟨h3, h4⟩ := h2 p hp
  refine ⟨h3, fun j u hj => ?_⟩
  have hn : 0 < n := by
    rcases Nat.eq_zero_or_pos n with h | h
    · subst h; rw [Nat.zero_mul] at hl
      have := (List.getElem?_eq_some_iff.1 hj).1
      omega
    · exact h
  exact cell_kept hk (hA p n cap (by rw [hp]) hn) (h4 j u hj)
 mutual
theorem OV.kept {A : Nat → Prop} {w w' : World} (hk : Kept A w w') : ∀ (o : Ob) (v : Value), OV A w v o → OV A w' v o
  | .mk k n g s keys kids, v, h => by
    rw [OV] at h ⊢
    obtain ⟨vk, vc, cs, hv, h1, h2, h3⟩ := h
    exact ⟨vk, vc, cs, hv, h1.kept hk, h2.kept hk, OVs.kept hk kids cs h3⟩
theorem OVs.kept {A : Nat → Prop} {w w' : World} (hk : Kept A w w') : ∀ (os : List Ob) (cs : List Value), OVs A w cs os → OVs A w' cs os
  | [], cs, h => by rw [OVs] at h ⊢; exact h
  | o :: os, cs, h => by
    rw [OVs] at h ⊢
    obtain ⟨a, rest, he, hl, h1, h2⟩ := h
    exact ⟨a, rest, he, hl, OV.kept hk o _ h1, OVs.kept hk os rest h2⟩
end
 mutual
theorem OV.mono {A B : Nat → Prop} {w : World} (hAB : ∀ b, A b → B b) : ∀ (o : Ob) (v : Value), OV A w v o → OV B w v o
  | .mk k n g s keys kids, v, h => by
    rw [OV] at h ⊢
    obtain ⟨vk, vc, cs, hv, h1, h2, h3⟩ := h
    exact ⟨vk, vc, cs, hv, ⟨h1.1, fun p l c e hn => hAB _ (h1.2 p l c e hn)⟩, ⟨h2.1, fun p l c e hn => hAB _ (h2.2 p l c e hn)⟩, OVs.mono hAB kids cs h3⟩
theorem OVs.mono {A B : Nat → Prop} {w : World} (hAB : ∀ b, A b → B b) : ∀ (os : List Ob) (cs : List Value), OVs A w cs os → OVs B w cs os
  | [], cs, h => by rw [OVs] at h ⊢; exact h
  | o :: os, cs, h => by
    rw [OVs] at h ⊢
    obtain ⟨a, rest, he, hl, h1, h2⟩ := h
    exact ⟨a, rest, he, hl, OV.mono hAB o _ h1, OVs.mono hAB os rest h2⟩
end
theorem OVs.len {A : Nat → Prop} {w : World} : ∀ (os : List Ob) (cs : List Value), OVs A w cs os → cs.length = os.length * 6
  | [], cs, h => by rw [OVs] at h; subst h; rfl
  | o :: os, cs, h => by
    rw [OVs] at h
    obtain ⟨a, rest, rfl, hl, _, h2⟩ := h
    rw [List.length_append, hl, OVs.len os rest h2, List.length_cons]; omega
/-- The i-th object of a row of objects. -/
theorem OVs.get {A : Nat → Prop} {w : World} : ∀ (os : List Ob) (cs : List Value) (i : Nat) (hi : i < os.length), OVs A w cs os → ∃ a : List Value, a.length = 6 ∧ OV A w (.agg a.toArray) os[i] ∧ ∀ j v, a[j]? = some v → cs[i * 6 + j]? = some v
  | [], cs, i, hi, h => by simp at hi
  | o :: os, cs, 0, hi, h => by
    rw [OVs] at h
    obtain ⟨a, rest, rfl, hl, h1, h2⟩ := h
    refine ⟨a, hl, h1, fun j v hj => ?_⟩
    rw [Nat.zero_mul, Nat.zero_add, List.getElem?_append_left (List.getElem?_eq_some_iff.1 hj).1]; exact hj
  | o :: os, cs, i + 1, hi, h => by
    rw [OVs] at h
    obtain ⟨a, rest, rfl, hl, h1, h2⟩ := h
    obtain ⟨b, hb, hv, hc⟩ := OVs.get os rest i (by simpa using hi) h2
    refine ⟨b, hb, hv, fun j v hj => ?_⟩
    rw [List.getElem?_append_right (by omega), hl, show (i + 1) * 6 + j - 6 = i * 6 + j by omega]
    exact hc j v hj
theorem OVs.nil {A : Nat → Prop} {w : World} : OVs A w [] [] := by rw [OVs]
/- OPENING -/
theorem SlA.of_cells {A : Nat → Prop} {W : World} {a : Addr} {len cap sz : Nat} {cs : List Value} (hsz : 0 < sz) (hl : cs.length = len * sz) (hc : ∀ j u, cs[j]? = some u → W.cell? (a.add j) = some u) (hA : ∀ b, b < W.heap.size → A b) : SlA A W (.slice (some a) len cap) sz len cs := by
  have plain : 0 < len → a.spot = none ∧ a.block < W.heap.size := by
    intro hn
    have h0 : 0 < cs.length := by rw [hl]; exact Nat.mul_pos hn hsz
    have h1 := hc 0 cs[0] (List.getElem?_eq_getElem h0)
    have e0 : a.add 0 = a := by simp [Addr.add]
    rw [e0] at h1
    unfold World.cell? at h1
    split at h1
    · rename_i hb
      have hlt := lt_of_get hb
      split at h1
      · cases h1
      · rename_i hh; exact ⟨by simpa using hh, hlt⟩
    · cases h1
  refine ⟨⟨hl, some a, cap, rfl, (fun h => by cases h), fun p hp => ?_⟩, fun p l c e hn => ?_⟩
  · cases hp
    refine ⟨fun h => (plain h).1, fun j u hj => ?_⟩
    have hn : 0 < len := by
      rcases Nat.eq_zero_or_pos len with h | h
      · subst h; rw [Nat.zero_mul] at hl
        have := (List.getElem?_eq_some_iff.1 hj).1
        omega
      · exact h
    have h1 := hc j u hj
    obtain ⟨b, off, spot⟩ := a
    have := (plain hn).1
    simp only at this
    subst this
    rw [show (⟨b, off, none⟩ : Addr).add j = ⟨b, off + j, none⟩ from add_none b off j] at h1
    exact h1
  · injection e with e _ _
    cases e
    exact hA _ (plain hn).2
theorem SlA.nil (A : Nat → Prop) (w : World) (sz cap : Nat) : SlA A w (.slice none 0 cap) sz 0 [] := ⟨Sl.nil w sz cap, fun p l c e _ => by injection e with e _ _; cases e⟩
end Go.Proofs.YtjajlcacbbnodaaGreatDoor
/- An object that came in, opened. -/
namespace Go.Proofs.YtjajlcacbbnodaaGreatDoor
set_option linter.unusedVariables false
set_option linter.unusedSimpArgs false
set_option linter.defProp false
open Eng Go.RowKit Go.ChangeShapes Go.WideShapes

theorem bulkAll_append {H : Type} : ∀ (a b : List (DataW H)), Rows.uptoBulkAll (a ++ b) = Rows.uptoBulkAll a + Rows.uptoBulkAll b
  | [], b => by simp [Rows.uptoBulkAll]
  | x :: a, b => by rw [List.cons_append, Rows.uptoBulkAll, bulkAll_append a b, Rows.uptoBulkAll]; omega
theorem bulk_strs {H : Type} : ∀ ss : List ByteArray, Rows.uptoBulkAll (strs (H := H) ss) = Pl.tot (ss.map (·.data.toList))
  | [] => by simp [strs, Rows.uptoBulkAll, Pl.tot]
  | s :: ss => by
    have := bulk_strs (H := H) ss
    rw [show strs (H := H) (s :: ss) = .lit (.string s.data.toList) :: strs ss from rfl, Rows.uptoBulkAll, this, Rows.uptoBulk]
    simp [Pl.tot]
theorem OVs.snoc {A : Nat → Prop} {w : World} {a : List Value} {o : Ob} (hl : a.length = 6) (ho : OV A w (.agg a.toArray) o) : ∀ (os : List Ob) (cs : List Value), OVs A w cs os → OVs A w (cs ++ a) (os ++ [o])
  | [], cs, h => by
    rw [OVs] at h
    subst h
    rw [List.nil_append, List.nil_append, OVs]
    exact ⟨a, [], by simp, hl, ho, OVs.nil⟩
  | p :: os, cs, h => by
    rw [OVs] at h
    obtain ⟨b, rest, rfl, hb, h1, h2⟩ := h
    rw [List.cons_append, OVs]
    exact ⟨b, rest ++ a, by simp, hb, h1, OVs.snoc hl ho os rest h2⟩
theorem addr_add (a : Addr) (m n : Nat) : (a.add m).add n = a.add (m + n) := by
  unfold Addr.add
  by_cases hm : m = 0
  · subst hm; simp
  · by_cases hn : n = 0
    · subst hn; simp [hm]
    · have : ¬ (m + n = 0) := by omega
      simp [hm, hn, Nat.add_assoc]
section
variable {H : Type} {enc : TypeId × Value → H} {W : World} {sp : Nat → Bool} {held : Bool}
abbrev InW (W : World) : Nat → Prop := fun b => b < W.heap.size
theorem open_keys {fuel : Nat} {cs : List Value} {x : DataW H × List MemPlace} (h : DataW.trod enc Tryz.prog W 0 sp held fuel 22 cs = some x) :
    ∃ (v : Value) (zs : List (List UInt8)), cs = [v] ∧ SlA (InW W) W v 1 zs.length (strsV zs) ∧ Pl.tot zs + 1 ≤ Rows.uptoBulk x.1 := by
  rcases open_strings Tryz.underlying22 Tryz.underlying9 (by kernel_rfl) h with ⟨rfl, rfl⟩ | ⟨a, len, cap, ss, rfl, _, hl, hm, hz, rfl, hcell, hsz⟩
  · exact ⟨_, [], rfl, SlA.nil _ _ _ _, by simp [Pl.tot, Rows.uptoBulk]⟩
  · have hlz : len ≤ ss.length := by rw [hz]; split <;> omega
    refine ⟨_, (ss.take len).map (·.data.toList), rfl, ?_, ?_⟩
    · have hlen : ((ss.take len).map (·.data.toList)).length = len := by simp; omega
      rw [hlen]
      refine SlA.of_cells (by omega) (by simp [strsV]; omega) (fun j u hj => ?_) (fun b hb => hb)
      have hjl : j < len := by
        have := (List.getElem?_eq_some_iff.1 hj).1
        simp [strsV] at this; omega
      rw [hcell j (by omega), ← hj]
      simp [strsV, strV, List.getElem?_take, hjl, List.getD, List.getElem?_eq_getElem (show j < ss.length by omega)]
    · simp only [Rows.uptoBulk]
      rw [bulk_strs]; omega
end
end Go.Proofs.YtjajlcacbbnodaaGreatDoor
/- Slices of anything that came in, opened, given how one element is opened. -/
namespace Go.Proofs.YtjajlcacbbnodaaGreatDoor
set_option linter.unusedVariables false
set_option linter.unusedSimpArgs false
set_option linter.defProp false
open Eng Go.RowKit Go.ChangeShapes Go.WideShapes

/-- The cells of a row of things. -/
inductive Rws {α : Type} (R : List Value → α → Prop) : List Value → List α → Prop
  | nil : Rws R [] []
  | cons {a rest : List Value} {x : α} {xs : List α} : R a x → Rws R rest xs → Rws R (a ++ rest) (x :: xs)
section
variable {α : Type} {R R' : List Value → α → Prop}
theorem Rws.snoc {a : List Value} {x : α} (hx : R a x) : ∀ {cs : List Value} {xs : List α}, Rws R cs xs → Rws R (cs ++ a) (xs ++ [x])
  | _, _, .nil => by
    have := Rws.cons hx (Rws.nil (R := R))
    simpa using this
  | _, _, .cons h t => by
    rw [List.append_assoc, List.cons_append]
    exact .cons h (Rws.snoc hx t)
theorem Rws.len {n : Nat} (hn : ∀ a x, R a x → a.length = n) : ∀ {cs : List Value} {xs : List α}, Rws R cs xs → cs.length = xs.length * n
  | _, _, .nil => by simp
  | _, _, .cons h t => by
    rw [List.length_append, hn _ _ h, Rws.len hn t, List.length_cons, Nat.add_mul]; omega
theorem Rws.mono (h : ∀ a x, R a x → R' a x) : ∀ {cs : List Value} {xs : List α}, Rws R cs xs → Rws R' cs xs
  | _, _, .nil => .nil
  | _, _, .cons hx t => .cons (h _ _ hx) (Rws.mono h t)
theorem Rws.flat {c : α → List Value} : ∀ {cs : List Value} {xs : List α}, Rws (fun cs x => cs = c x) cs xs → cs = xs.flatMap c
  | _, _, .nil => rfl
  | _, _, .cons hx t => by rw [hx, Rws.flat t, List.flatMap_cons]
theorem Rws.all {p : α → Prop} (h : ∀ a x, R a x → p x) : ∀ {cs : List Value} {xs : List α}, Rws R cs xs → ∀ x ∈ xs, p x
  | _, _, .nil => by simp
  | _, _, .cons hx t => by
    intro y hy
    rcases List.mem_cons.1 hy with rfl | hy
    · exact h _ _ hx
    · exact Rws.all h t y hy
theorem Rws.get {n : Nat} (hn : ∀ a x, R a x → a.length = n) : ∀ {cs : List Value} {xs : List α} (i : Nat) (hi : i < xs.length), Rws R cs xs → ∃ a, R a xs[i] ∧ ∀ j v, a[j]? = some v → cs[i * n + j]? = some v
  | _, _, i, hi, .nil => by simp at hi
  | _, _, 0, _, .cons (a := a) (rest := rest) hx t => ⟨a, hx, fun j v hj => by
    rw [Nat.zero_mul, Nat.zero_add, List.getElem?_append_left (List.getElem?_eq_some_iff.1 hj).1]; exact hj⟩
  | _, _, i + 1, hi, .cons (a := a) (rest := rest) hx t => by
    obtain ⟨b, hb, hc⟩ := Rws.get hn i (by simpa using hi) t
    have hl := hn _ _ hx
    refine ⟨b, hb, fun j v hj => ?_⟩
    have e : (i + 1) * n + j = a.length + (i * n + j) := by rw [hl, Nat.add_mul]; omega
    rw [e, List.getElem?_append_right (by omega), show a.length + (i * n + j) - a.length = i * n + j by omega]
    exact hc j v hj
end
section
variable {H : Type} {enc : TypeId × Value → H} {W : World} {sp : Nat → Bool} {held : Bool}
theorem open_slice_of {E T : TypeId} {n : Nat} {α : Type} {R : List Value → α → Prop} {wt : α → Nat} (ht : Tryz.prog.underlying T = some (.slice E)) (hc : Tryz.prog.cellsOf E = n) (hn : 0 < n)
    (hel : ∀ fuel cs x, DataW.trod enc Tryz.prog W 0 sp held fuel E cs = some x → ∃ a, R cs a ∧ cs.length = n ∧ wt a ≤ Rows.uptoBulk x.1)
    {fuel : Nat} {cs : List Value} {x : DataW H × List MemPlace} (h : DataW.trod enc Tryz.prog W 0 sp held fuel T cs = some x) :
    ∃ (v : Value) (ds : List Value) (xs : List α), cs = [v] ∧ SlA (InW W) W v n xs.length ds ∧ Rws R ds xs ∧ xs.length ≤ 9223372036854775807 ∧ (xs.map wt).sum + 1 ≤ Rows.uptoBulk x.1 := by
  rcases DataW.trod_slice ht h with ⟨rfl, rfl⟩ | ⟨a, len, cap, elems, rest, n', rfl, rfl, rfl, _, hlc, hcm, hel2, hat, _, _⟩
  · exact ⟨_, [], [], rfl, SlA.nil _ _ _ _, .nil, by simp, by simp [Rows.uptoBulk]⟩
  · rw [hc] at hat
    have step : ∀ k, k ≤ len → ∃ (cs : List Value) (os : List α), os.length = k ∧ cs.length = k * n ∧ Rws R cs os ∧ (∀ j u, cs[j]? = some u → W.cell? (a.add j) = some u) ∧ (os.map wt).sum ≤ Rows.uptoBulkAll ((elems.take k).map (·.1)) := by
      intro k
      induction k with
      | zero => intro _; exact ⟨[], [], rfl, by simp, .nil, (fun j u hj => by simp at hj), by simp [Rows.uptoBulkAll]⟩
      | succ k ihk =>
        intro hk
        obtain ⟨cs, os, h1, hcl, h2, h3, h4⟩ := ihk (by omega)
        have hki : k < elems.length := by omega
        have hb := hat k (by omega)
        rw [List.getElem?_eq_getElem hki, Option.bind_eq_some_iff] at hb
        obtain ⟨ck, hck, htr⟩ := hb
        obtain ⟨o, ho, hlo, hw⟩ := hel n' ck _ htr
        refine ⟨cs ++ ck, os ++ [o], by simp [h1], by rw [List.length_append, hcl, hlo, Nat.add_mul, Nat.one_mul], Rws.snoc ho h2, fun j u hj => ?_, ?_⟩
        · rcases Nat.lt_or_ge j cs.length with hj1 | hj1
          · rw [List.getElem?_append_left hj1] at hj; exact h3 j u hj
          · rw [List.getElem?_append_right hj1] at hj
            have hj6 : j - cs.length < n := by
              have := (List.getElem?_eq_some_iff.1 hj).1
              omega
            have := (World.cells?_some hck).2.2 (j - cs.length) hj6
            rw [← hj, ← this, addr_add, show k * n + (j - cs.length) = j by omega]
        · rw [List.take_succ_eq_append_getElem hki, List.map_append, List.map_append, bulkAll_append, List.sum_append]
          simp only [List.map_cons, List.map_nil, Rows.uptoBulkAll, List.sum_cons, List.sum_nil]
          omega
    obtain ⟨cs, os, h1, hcl, h2, h3, h4⟩ := step len (Nat.le_refl _)
    refine ⟨_, cs, os, rfl, ?_, h2, ?_, ?_⟩
    · rw [h1]
      exact SlA.of_cells hn (by rw [hcl]) h3 (fun b hb => hb)
    · rw [h1]; simp only [maxLen] at hcm; omega
    · rw [← hel2, List.take_length] at h4
      simp only [Rows.uptoBulk]
      omega
end
end Go.Proofs.YtjajlcacbbnodaaGreatDoor
/- Steps, slices of steps and answers that came in, opened. -/
namespace Go.Proofs.YtjajlcacbbnodaaGreatDoor
set_option linter.unusedVariables false
set_option linter.unusedSimpArgs false
set_option linter.defProp false
open Eng Go.RowKit Go.ChangeShapes Go.WideShapes Go.ChangeAt

set_option maxRecDepth 100000
theorem list5 {α : Type} : ∀ {l : List α}, l.length = 5 → ∃ a b c d e, l = [a, b, c, d, e]
  | [a, b, c, d, e], _ => ⟨a, b, c, d, e, rfl⟩
theorem list3 {α : Type} : ∀ {l : List α}, l.length = 3 → ∃ a b c, l = [a, b, c]
  | [a, b, c], _ => ⟨a, b, c, rfl⟩
section
variable {H : Type} {enc : TypeId × Value → H} {W : World} {sp : Nat → Bool} {held : Bool}

theorem open_step (fuel : Nat) (cs : List Value) (x : DataW H × List MemPlace) (h : DataW.trod enc Tryz.prog W 0 sp held fuel 43 cs = some x) : ∃ s : Sc.Step, (cs = stC s ∧ Kind64 s) ∧ cs.length = 5 ∧ 0 ≤ Rows.uptoBulk x.1 := by
  obtain ⟨xs, n, rfl, rfl, hl, hxl, hf⟩ := DataW.trod_struct Tryz.underlying43 h
  have c5 : Tryz.prog.cellsOf 43 = 5 := by kernel_rfl
  rw [c5] at hl
  have hxl : xs.length = 5 := hxl
  obtain ⟨x0, x1, x2, x3, x4, rfl⟩ := list5 hxl
  obtain ⟨v0, v1, v2, v3, v4, rfl⟩ := list5 hl
  have e0 := hf 0 _ rfl
  have e1 := hf 1 _ rfl
  have e2 := hf 2 _ rfl
  have e3 := hf 3 _ rfl
  have e4 := hf 4 _ rfl
  have k0 : Tryz.prog.cellsOf 3 = 1 := by kernel_rfl
  have k3 : Tryz.prog.cellsOf 9 = 1 := by kernel_rfl
  simp only [k0, k3, List.drop_zero, List.drop_succ_cons, List.take_succ_cons, List.take_zero, List.getElem?_cons_zero, List.getElem?_cons_succ] at e0 e1 e2 e3 e4
  obtain ⟨k, hk, rfl, hw⟩ := DataW.trod_int Tryz.underlying3 e0
  obtain ⟨a, ha, rfl, _⟩ := DataW.trod_int Tryz.underlying3 e1
  obtain ⟨b, hb, rfl, _⟩ := DataW.trod_int Tryz.underlying3 e2
  obtain ⟨s, hs, rfl, _⟩ := DataW.trod_string Tryz.underlying9 e3
  obtain ⟨t, ht, rfl, _⟩ := DataW.trod_string Tryz.underlying9 e4
  injection hk with hk _
  injection ha with ha _
  injection hb with hb _
  injection hs with hs _
  injection ht with ht _
  subst hk; subst ha; subst hb; subst hs; subst ht
  exact ⟨⟨k, a, b, s.data.toList, t.data.toList⟩, ⟨rfl, int_bounds_i64 hw⟩, rfl, Nat.zero_le _⟩
theorem row_step {b0 : Nat} {v : Value} {d : DataW H} {ps : List MemPlace} (hval : Value.okWide Tryz.prog W .any b0 43 v) (hd : DataW.Trod enc Tryz.prog W 0 sp held 43 v d ps) : ∃ x : Sc.Step, v = stV x ∧ Kind64 x := by
  obtain ⟨cs, rfl, _⟩ := okWide_struct Tryz.underlying43 hval
  obtain ⟨fuel, hf⟩ := hd
  obtain ⟨s, ⟨h1, h2⟩, _, _⟩ := open_step fuel _ _ hf
  refine ⟨s, ?_, h2⟩
  have h1 : cs.toList = stC s := h1
  rw [stV, ← h1]
theorem row_steps {b0 : Nat} {v : Value} {d : DataW H} {ps : List MemPlace} (hval : Value.okWide Tryz.prog W .any b0 44 v) (hd : DataW.Trod enc Tryz.prog W 0 sp held 44 v d ps) :
    ∃ l : List Sc.Step, Sl W v 5 l.length (l.flatMap stC) ∧ (∀ y ∈ l, Kind64 y) ∧ l.length ≤ 9223372036854775807 := by
  obtain ⟨a, len, cap, rfl⟩ := okWide_slice Tryz.underlying44 hval
  obtain ⟨fuel, hf⟩ := hd
  obtain ⟨v', ds, xs, h1, h2, h3, h4, _⟩ := open_slice_of (R := fun cs s => cs = stC s ∧ Kind64 s) (wt := fun _ => 0) (n := 5) Tryz.underlying44 (by kernel_rfl) (by decide) open_step hf
  have e : v' = .slice a len cap := by
    have h1 : [Value.slice a len cap] = [v'] := h1
    injection h1 with h1 _
    exact h1.symm
  subst e
  have hfl : ds = xs.flatMap stC := Rws.flat (h3.mono fun _ _ h => h.1)
  subst hfl
  exact ⟨xs, h2.1, h3.all fun _ _ h => h.2, h4⟩

theorem row_answer {b0 : Nat} {v : Value} {d : DataW H} {ps : List MemPlace} (hval : Value.okWide Tryz.prog W .any b0 46 v) (hd : DataW.Trod enc Tryz.prog W 0 sp held 46 v d ps) :
    ∃ (e n : Int) (va : Value) (ls : List (List UInt8)), v = anV e n va ∧ Sl W va 1 ls.length (strsV ls) ∧ e ≤ 9223372036854775807 ∧ n ≤ 9223372036854775807 := by
  obtain ⟨cs, rfl, _⟩ := okWide_struct Tryz.underlying46 hval
  obtain ⟨fuel, h⟩ := hd
  have h : DataW.trod enc Tryz.prog W 0 sp held fuel 46 cs.toList = some (d, ps) := h
  obtain ⟨xs, n, rfl, _, hl, hxl, hf⟩ := DataW.trod_struct Tryz.underlying46 h
  have c3 : Tryz.prog.cellsOf 46 = 3 := by kernel_rfl
  rw [c3] at hl
  have hxl : xs.length = 3 := hxl
  obtain ⟨x0, x1, x2, rfl⟩ := list3 hxl
  obtain ⟨v0, v1, v2, hcs⟩ := list3 hl
  rw [hcs] at hf
  have e0 := hf 0 _ rfl
  have e1 := hf 1 _ rfl
  have e2 := hf 2 _ rfl
  have k0 : Tryz.prog.cellsOf 28 = 1 := by kernel_rfl
  have k1 : Tryz.prog.cellsOf 3 = 1 := by kernel_rfl
  have k2 : Tryz.prog.cellsOf 22 = 1 := by kernel_rfl
  simp only [k0, k1, k2, List.drop_zero, List.drop_succ_cons, List.take_succ_cons, List.take_zero, List.getElem?_cons_zero, List.getElem?_cons_succ] at e0 e1 e2
  obtain ⟨e, he, rfl, hw0⟩ := DataW.trod_int Tryz.underlying28 e0
  obtain ⟨m, hm, rfl, hw1⟩ := DataW.trod_int Tryz.underlying3 e1
  obtain ⟨vk, zs, hvk, hsk, _⟩ := open_keys e2
  injection he with he _
  injection hm with hm _
  injection hvk with hvk _
  subst he; subst hm; subst hvk
  refine ⟨e, m, v2, zs, ?_, hsk.1, (int_bounds_i64 hw0).2, (int_bounds_i64 hw1).2⟩
  rw [anV, anC, ← hcs]
end
end Go.Proofs.YtjajlcacbbnodaaGreatDoor
/- What the rows of the laws of layer 55 ask: the laws' walks and the opened arguments. -/
namespace Go.Proofs.YtjajlcacbbnodaaGreatDoor
set_option linter.unusedVariables false
set_option linter.unusedSimpArgs false
set_option linter.defProp false
end Go.Proofs.YtjajlcacbbnodaaGreatDoor
