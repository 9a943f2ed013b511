/- Texts that go together: LxR LxS LxT LxU LxV LxW Plain03C EngH LxX LxY LxZ EngI LxAA LxAB LxAC LxAD SLaw03 LxAE LxAF Plain03D EngJ LxAG PlS Plain04B FixX SLaw02 FixY SLaw04 PlT Plain03E Plain03F. -/
import Derived.Laws.StructEq
import Derived.Test.YtihjejmmldpelaaGreatDoorRows
import Derived.Lib.SmallJoins
import Derived.Test.YtihjejmmldpelaaGreatDoorMmnanknjl
import Derived.Test.YtihjejmmldpelaaGreatDoorMpnkbkcap
import Derived.Test.YtihjejmmldpelaaGreatDoorMfibcmaon
/- Contracts of foliantref01: Digit, Unhex, Begins, Line, Skip. -/
namespace Go.Proofs.YtihjejmmldpelaaGreatDoor
set_option linter.unusedVariables false
set_option linter.unusedSimpArgs false
set_option linter.defProp false
open Eng Go.RowKit

 attribute [local congr] g_congr in
theorem rdigit_ret (c : UInt8) (w : World) : Ret Tryz.prog 171 #[.int .u8 c.toNat] w (fun v w' => v = .int .i64 (Lx.digit c) ∧ w = w') := by
  refine ret_of fun K hK => S_foliantref01_Digit_ok ?_
  unfold S_foliantref01_Digit
  have h256 := c.toNat_lt
  simp +contextual only [rs, gs]
  by_cases h1 : 48 ≤ c.toNat ∧ c.toNat ≤ 57
  · have hb : (decide ((48 : Int) ≤ (c.toNat : Int)) && decide ((c.toNat : Int) ≤ 57)) = true := by simp; omega
    simp only [hb, i_t]
    rw [c_64 (by omega) (by omega), b_sub, wrap64_id (by omega) (by omega)]
    exact hK _ _ ⟨by rw [Lx.digit, if_pos h1], rfl⟩
  have hb : (decide ((48 : Int) ≤ (c.toNat : Int)) && decide ((c.toNat : Int) ≤ 57)) = false := by
    rw [Bool.and_eq_false_iff, decide_eq_false_iff_not, decide_eq_false_iff_not]; omega
  simp only [hb, i_f]
  by_cases h2 : 65 ≤ c.toNat ∧ c.toNat ≤ 70
  · have hb : (decide ((65 : Int) ≤ (c.toNat : Int)) && decide ((c.toNat : Int) ≤ 70)) = true := by simp; omega
    simp only [hb, i_t]
    rw [c_64 (by omega) (by omega), b_sub, wrap64_id (by omega) (by omega), b_add, wrap64_id (by omega) (by omega)]
    exact hK _ _ ⟨by rw [Lx.digit, if_neg h1, if_pos h2], rfl⟩
  have hb : (decide ((65 : Int) ≤ (c.toNat : Int)) && decide ((c.toNat : Int) ≤ 70)) = false := by
    rw [Bool.and_eq_false_iff, decide_eq_false_iff_not, decide_eq_false_iff_not]; omega
  simp only [hb, i_f]
  by_cases h3 : 97 ≤ c.toNat ∧ c.toNat ≤ 102
  · have hb : (decide ((97 : Int) ≤ (c.toNat : Int)) && decide ((c.toNat : Int) ≤ 102)) = true := by simp; omega
    simp only [hb, i_t]
    rw [c_64 (by omega) (by omega), b_sub, wrap64_id (by omega) (by omega), b_add, wrap64_id (by omega) (by omega)]
    exact hK _ _ ⟨by rw [Lx.digit, if_neg h1, if_neg h2, if_pos h3], rfl⟩
  have hb : (decide ((97 : Int) ≤ (c.toNat : Int)) && decide ((c.toNat : Int) ≤ 102)) = false := by
    rw [Bool.and_eq_false_iff, decide_eq_false_iff_not, decide_eq_false_iff_not]; omega
  simp only [hb, i_f]
  exact hK _ _ ⟨by rw [Lx.digit, if_neg h1, if_neg h2, if_neg h3], rfl⟩
 attribute [local congr] g_congr in
theorem runhex_ret (s : List UInt8) (w : World) (hs : s.length ≤ 1099511627776) : Ret Tryz.prog 173 #[.string ⟨s.toArray⟩] w (fun v w' => v = .tuple #[.string ⟨(Lx.unhexE s).1.toArray⟩, .int .i64 (Lx.unhexE s).2] ∧ Below w.heap.size w w') := by
  refine ret_of fun K hK => S_foliantref01_Unhex_ok ?_
  unfold S_foliantref01_Unhex
  rw [s_len Tryz.underlying9, b_rem (by omega)]
  have hr : ((s.length : Int).tmod 2) = ((s.length % 2 : Nat) : Int) := by rw [Int.tmod_eq_emod_of_nonneg (by omega)]; omega
  rw [hr]
  by_cases hodd : s.length % 2 = 1
  · rw [hodd]
    have hu : ¬ ((1 : Nat) : Int) = 0 := by omega
    simp only [rs, hu, decide_true, decide_not, decide_false, Bool.not_false]
    exact hK _ _ ⟨by rw [unhexE_none (unhex_odd _ s (Nat.le_refl _) hodd)], (Own.start w).done⟩
  have heven : s.length % 2 = 0 := by omega
  rw [heven]
  simp only [rs, ne_eq, Int.natCast_zero, not_true, decide_false]
  refine loop (fun vs w' => ∃ (i : Nat) (v : Value) (acc : List UInt8), vs = [v, .int .i64 i] ∧ i ≤ s.length ∧ i % 2 = 0 ∧ acc.length ≤ i ∧ Lx.unhex s = (Lx.unhex (s.drop i)).map (acc ++ ·) ∧ Own w w' [BRow v acc])
    (fun vs _ => s.length - n1 vs) ⟨0, _, [], rfl, by omega, rfl, by simp, by simp, (Own.start w).nilRow _ 1⟩ ?_
  rintro vs w2 ⟨i, v, acc, rfl, hi, hi0, ha, he, ho⟩ _
  simp only [S_foliantref01_Unhex_0, gd, s_len Tryz.underlying9]
  rw [b_lss]
  by_cases hlt : (i : Int) < (s.length : Int)
  · have hi2 : i + 1 < s.length := by omega
    have hi3 : i < s.length := by omega
    simp only [hlt, decide_true, i_t]
    have b1 := Lx.digit_bd s[i]
    have b2 := Lx.digit_bd s[i + 1]
    have hw1 : IntKind.wrap .i64 ((i : Int) + 1) = ((i + 1 : Nat) : Int) := by rw [wrap64_id (by omega) (by omega)]; omega
    have hc1 : s[(i : Int).toNat]? = some s[i] := by simp [hi3]
    have hc2 : s[((i + 1 : Nat) : Int).toNat]? = some s[i + 1] := by rw [Int.toNat_natCast]; simp [hi2]
    refine quiet (q_do _ (fun w => run_s_ix (c := s[i]) Tryz.underlying9 (Int.natCast_nonneg i) hc1) ?_)
    refine q_call (.int .i64 (Lx.digit s[i])) (fun w hb => ret_same (rdigit_ret s[i] w) hb) ?_
    refine q_do (.int .i64 ((i + 1 : Nat) : Int)) (fun w => by rw [r_add, hw1]) ?_
    refine q_do _ (fun w => run_s_ix (c := s[i + 1]) Tryz.underlying9 (Int.natCast_nonneg _) hc2) ?_
    refine q_call (.int .i64 (Lx.digit s[i + 1])) (fun w hb => ret_same (rdigit_ret s[i + 1] w) hb) ?_
    intro w3 hb3
    have ho := ho.grow hb3
    rw [unhex_step hi2] at he
    simp +contextual only [rs, gs]
    by_cases hbad : Lx.digit s[i] < 0 ∨ Lx.digit s[i + 1] < 0
    · have hb : (decide (Lx.digit s[i] < 0) || decide (Lx.digit s[i + 1] < 0)) = true := by simpa using hbad
      simp only [hb, i_t]
      rw [if_pos hbad] at he
      exact hK _ _ ⟨by rw [unhexE_none he], ho.done⟩
    have hb : (decide (Lx.digit s[i] < 0) || decide (Lx.digit s[i + 1] < 0)) = false := by simpa using hbad
    simp only [hb, i_f]
    rw [if_neg hbad] at he
    rw [wrap64_id (n := 16 * Lx.digit s[i]) (by omega) (by omega), wrap64_id (by omega) (by omega), c_8, wrap8_id (by omega) (by omega)]
    refine o_app1 (Lx.byte (Lx.digit s[i]) (Lx.digit s[i + 1])) (byte_nat (by omega) (by omega) (by omega) (by omega)) ho (by omega) fun v' w4 ho => ?_
    rw [wrap64_id (by omega) (by omega)]
    refine nextX ⟨i + 2, v', _, rfl, by omega, by omega, by simp; omega, ?_, ho⟩ (by simp [n1, intOf]; omega)
    rw [he, Option.map_map]
    congr 1
    funext x; simp
  · have hi2 : i = s.length := by omega
    subst hi2
    simp only [hlt, decide_false, i_f]
    rw [o_strB 0 ho rfl]
    rw [List.drop_length, Lx.unhex, Option.map_some, List.append_nil] at he
    exact hK _ _ ⟨by rw [unhexE_some he], ho.done⟩
theorem prefix_take (p l : List UInt8) : p.isPrefixOf l = (decide (p.length ≤ l.length) && decide (l.take p.length = p)) := by
  rw [Bool.eq_iff_iff, List.isPrefixOf_iff_prefix, List.prefix_iff_eq_take]
  simp only [Bool.and_eq_true, decide_eq_true_eq]
  constructor
  · intro h
    have := congrArg List.length h
    rw [List.length_take] at this
    exact ⟨by omega, h.symm⟩
  · intro h; exact h.2.symm
theorem rbegins_ret (s p : List UInt8) (k : Int) (w : World) (hs : s.length ≤ 1099511627776) : Ret Tryz.prog 152 #[.string ⟨s.toArray⟩, .string ⟨p.toArray⟩, .int .i64 k] w (fun v w' => v = .bool (begins s p k) ∧ w = w') := by
  refine ret_of fun K hK => S_foliantref01_Begins_ok ?_
  unfold S_foliantref01_Begins
  by_cases h1 : 0 ≤ k
  · simp only [rs, h1, decide_true, s_len Tryz.underlying9]
    by_cases h2 : k ≤ (s.length : Int)
    · simp only [rs, h2, decide_true, s_len Tryz.underlying9]
      rw [wrap64_id (by omega) (by omega)]
      have hpt := prefix_take p (s.drop k.toNat)
      rw [List.length_drop] at hpt
      by_cases h3 : (p.length : Int) ≤ (s.length : Int) - k
      · simp only [rs, h3, decide_true, s_len Tryz.underlying9]
        rw [wrap64_id (by omega) (by omega), s_slice Tryz.underlying9 h1 (by omega) (by omega), show (k + (p.length : Int)).toNat - k.toNat = p.length by omega]
        simp only [rs]
        rw [decide_eq_true (show p.length ≤ s.length - k.toNat by omega), Bool.true_and] at hpt
        exact hK _ _ ⟨by simp only [begins, h1, h2, decide_true, Bool.true_and, hpt], rfl⟩
      · simp only [rs, h3, decide_false, g_un]
        rw [decide_eq_false (show ¬ p.length ≤ s.length - k.toNat by omega), Bool.false_and] at hpt
        exact hK _ _ ⟨by simp only [begins, h1, h2, decide_true, Bool.true_and, hpt], rfl⟩
    · simp only [rs, h2, decide_false, g_un]
      exact hK _ _ ⟨by simp [begins, h2], rfl⟩
  · simp only [rs, h1, decide_false, g_un]
    exact hK _ _ ⟨by simp [begins, h1], rfl⟩
theorem not13_begins (s : List UInt8) (k : Nat) (hk : k < s.length) (h : s[k] ≠ 13) : begins s [13, 10] (k : Int) = false := by
  unfold begins
  rw [Int.toNat_natCast, Lx.drop_cons hk]
  have : ((13 : UInt8) == s[k]) = false := by simpa using fun e : 13 = s[k] => h e.symm
  simp [List.isPrefixOf, this]
theorem rline_ret (s : List UInt8) (k : Nat) (w : World) (hk : k ≤ s.length) (hs : s.length ≤ 1099511627776) : Ret Tryz.prog 118 #[.string ⟨s.toArray⟩, .int .i64 k] w (fun v w' => v = .int .i64 (Lx.line s k) ∧ w = w') := by
  refine ret_of fun K hK => S_foliantref01_Line_ok ?_
  unfold S_foliantref01_Line
  have h0 : ¬ ((k : Int) < 0) := by omega
  have h1 : ¬ ((s.length : Int) < (k : Int)) := by omega
  simp only [rs, h0, h1, decide_false, s_len Tryz.underlying9]
  refine loop (fun vs w' => ∃ (i : Nat), vs = [.int .i64 i] ∧ i ≤ s.length ∧ Lx.line s i = Lx.line s k ∧ w = w') (fun vs _ => s.length - n0 vs) ⟨k, rfl, hk, rfl, rfl⟩ ?_
  rintro vs w2 ⟨i, rfl, hi, he, rfl⟩ _
  simp only [S_foliantref01_Line_0, gd, s_len Tryz.underlying9]
  rw [b_lss]
  by_cases hlt : (i : Int) < (s.length : Int)
  · have hi2 : i < s.length := by omega
    simp only [hlt, decide_true, i_t]
    have hd := Lx.drop_cons hi2
    have e1 := u8d s[i] 13 13 rfl
    have e2 := u8d s[i] 10 10 rfl
    refine c_eq (rbegins_ret s [13, 10] i w hs) ?_
    by_cases g2 : s[i] = 13
    · rw [crlf_begins s i hi2 g2]
      have g1 : ¬ s[i] = 10 := by rw [g2]; decide
      by_cases g3 : (s.drop (i + 1)).head? = some 10
      · simp only [decide_eq_true g3, i_t, rs]
        rw [wrap64_id (by omega) (by omega)]
        refine hK _ _ ⟨?_, rfl⟩
        rw [← he, Lx.line, hd, Lx.lineF, if_neg g1, if_pos g2, if_pos g3]; simp
      · simp only [decide_eq_false g3, i_f, s_at hi2, rs, e1, decide_eq_true g2, g_un]
        rw [wrap64_id (by omega) (by omega)]
        refine hK _ _ ⟨?_, rfl⟩
        rw [← he, Lx.line, hd, Lx.lineF, if_neg g1, if_pos g2, if_neg g3]; simp
    rw [not13_begins s i hi2 g2]
    simp only [i_f, s_at hi2, rs, e1, decide_eq_false g2]
    by_cases g1 : s[i] = 10
    · simp only [rs, s_at hi2, e2, decide_eq_true g1]
      rw [wrap64_id (by omega) (by omega)]
      refine hK _ _ ⟨?_, rfl⟩
      rw [← he, Lx.line, hd, Lx.lineF, if_pos g1]; simp
    simp only [rs, s_at hi2, e2, decide_eq_false g1]
    rw [wrap64_id (by omega) (by omega)]
    refine nextX ⟨i + 1, rfl, by omega, ?_, rfl⟩ (by simp [n0, intOf]; omega)
    rw [← he]
    simp only [Lx.line]
    rw [hd, Lx.lineF, if_neg g1, if_neg g2]; omega
  · have hi2 : i = s.length := by omega
    subst hi2
    simp only [hlt, decide_false, i_f]
    refine hK _ _ ⟨?_, rfl⟩
    rw [← he, Lx.line, List.drop_length]; simp [Lx.lineF]
theorem rskip_ret (s : List UInt8) (k : Int) (w : World) (hs : s.length ≤ 1099511627776) : Ret Tryz.prog 77 #[.string ⟨s.toArray⟩, .int .i64 k] w (fun v w' => v = .int .i64 (Lx.skipI s k) ∧ w = w') := by
  refine ret_of fun K hK => S_foliantref01_Skip_ok ?_
  unfold S_foliantref01_Skip
  by_cases h0 : k < 0
  · simp only [rs, h0, decide_true, g_un]
    exact hK _ _ ⟨by rw [Lx.skipI, if_pos (.inl h0)], rfl⟩
  simp only [rs, h0, decide_false, s_len Tryz.underlying9]
  by_cases h1 : (s.length : Int) < k
  · simp only [rs, h1, decide_true]
    exact hK _ _ ⟨by rw [Lx.skipI, if_pos (.inr h1)], rfl⟩
  simp only [rs, h1, decide_false]
  have hsk : Lx.skipI s k = ((Lx.skip s k.toNat : Nat) : Int) := by rw [Lx.skipI, if_neg (by omega)]
  refine loop (fun vs w' => ∃ (i : Nat), vs = [.int .i64 i] ∧ i ≤ s.length ∧ Lx.skip s i = Lx.skip s k.toNat ∧ w = w') (fun vs _ => s.length - n0 vs) ⟨k.toNat, by rw [Int.toNat_of_nonneg (by omega)], by omega, rfl, rfl⟩ ?_
  rintro vs w2 ⟨i, rfl, hi, he, rfl⟩ _
  simp only [S_foliantref01_Skip_0, gd, s_len Tryz.underlying9]
  rw [b_lss]
  by_cases hlt : (i : Int) < (s.length : Int)
  · have hi2 : i < s.length := by omega
    have hd := Lx.drop_cons hi2
    simp only [hlt, decide_true, i_t, s_at hi2]
    have e1 := u8d s[i] 37 37 rfl
    have hL := Lx.lineF_le (s.drop i)
    have hP := Lx.lineF_pos s[i] (s.drop (i + 1))
    rw [← hd] at hP
    rw [List.length_drop] at hL
    by_cases g1 : s[i] = 37
    · simp only [rs, e1, decide_eq_true g1]
      refine c_eq (rline_ret s i w (by omega) hs) ?_
      refine nextX ⟨Lx.line s i, rfl, by unfold Lx.line; omega, ?_, rfl⟩ (by simp [n0, intOf, Lx.line]; omega)
      rw [← he]
      simp only [Lx.skip]
      have e2 : Lx.skipF false (s.drop i) = Lx.lineF (s.drop i) + Lx.skipF false ((s.drop i).drop (Lx.lineF (s.drop i))) := by
        rw [hd, Lx.skipF, if_pos g1, Lx.skipF_line, Lx.lineF, if_neg (by rw [g1]; decide), if_neg (by rw [g1]; decide), Nat.add_comm 1 (Lx.lineF _), List.drop_succ_cons]; omega
      rw [e2, List.drop_drop, Lx.line]; omega
    simp only [rs, e1, decide_eq_false g1, s_at hi2]
    refine c_eq (rwhite_ret s[i] w) ?_
    cases hw : Oc.white s[i] with
    | true =>
      simp only [rs]
      rw [wrap64_id (by omega) (by omega)]
      refine nextX ⟨i + 1, rfl, by omega, ?_, rfl⟩ (by simp [n0, intOf]; omega)
      rw [← he]
      simp only [Lx.skip]
      rw [hd, Lx.skipF, if_neg g1, if_pos hw]; omega
    | false =>
      simp only [rs]
      refine hK _ _ ⟨?_, rfl⟩
      rw [hsk, ← he, Lx.skip, hd, Lx.skipF, if_neg g1, if_neg (by simp [hw])]; simp
  · have hi2 : i = s.length := by omega
    subst hi2
    simp only [hlt, decide_false, i_f]
    refine hK _ _ ⟨?_, rfl⟩
    rw [hsk, ← he, Lx.skip, List.drop_length]; simp [Lx.skipF]
end Go.Proofs.YtihjejmmldpelaaGreatDoor
/- Contracts of foliantref03: Run, Integer, whole, point, long, word, name. -/
namespace Go.Proofs.YtihjejmmldpelaaGreatDoor
set_option linter.unusedVariables false
set_option linter.unusedSimpArgs false
set_option linter.defProp false
open Eng Go.RowKit

theorem rrun_ret (s : List UInt8) (i : Nat) (w : World) (hs : s.length ≤ 1099511627776) (h : i ≤ s.length) : Ret Tryz.prog 147 #[.string ⟨s.toArray⟩, .int .i64 i] w (fun v w' => v = .int .i64 (Lx.run s i) ∧ w = w') := by
  refine ret_of fun K hK => S_foliantref03_Run_ok ?_
  unfold S_foliantref03_Run
  refine loop (fun vs w' => ∃ (j : Nat), vs = [.int .i64 j] ∧ j ≤ s.length ∧ Lx.run s j = Lx.run s i ∧ w = w') (fun vs _ => s.length - n0 vs) ⟨i, rfl, h, rfl, rfl⟩ ?_
  rintro vs w2 ⟨j, rfl, hj, he, rfl⟩ _
  simp only [S_foliantref03_Run_0, gd, s_len Tryz.underlying9]
  rw [b_lss]
  by_cases hlt : (j : Int) < (s.length : Int)
  · have hi2 : j < s.length := by omega
    have hd := Lx.drop_cons hi2
    simp only [hlt, decide_true, rs, s_at hi2]
    refine c_eq (rregular_ret s[j] w) ?_
    cases hr : Oc.regular s[j] with
    | true =>
      simp only [rs]
      rw [wrap64_id (by omega) (by omega)]
      refine nextX ⟨j + 1, rfl, by omega, ?_, rfl⟩ (by simp [n0, intOf]; omega)
      rw [← he, Lx.run, Lx.run, hd, Lx.runF, if_pos hr]; omega
    | false =>
      simp only [rs]
      refine hK _ _ ⟨?_, rfl⟩
      rw [← he, Lx.run, hd, Lx.runF, if_neg (by simp [hr])]; simp
  · have hi2 : j = s.length := by omega
    subst hi2
    simp only [hlt, decide_false, rs, g_un]
    refine hK _ _ ⟨?_, rfl⟩
    rw [← he, Lx.run, List.drop_length]; simp [Lx.runF]
theorem all_drop {s : List UInt8} {p : UInt8 → Bool} {i : Nat} (h : i < s.length) : (s.drop i).all p = (p s[i] && (s.drop (i + 1)).all p) := by
  rw [Lx.drop_cons h, List.all_cons]
theorem rinteger_ret (s : List UInt8) (w : World) (hs : s.length ≤ 1099511627776) : Ret Tryz.prog 175 #[.string ⟨s.toArray⟩] w (fun v w' => v = .bool (Lx.intForm s) ∧ w = w') := by
  refine ret_of fun K hK => S_foliantref03_Integer_ok ?_
  unfold S_foliantref03_Integer
  refine join fun J hJ => ?_
  have fin : J [.string ⟨(Lx.unsign s).toArray⟩] w := by
    refine hJ _ _ fun _ => ?_
    simp only [gd]
    have hu : (Lx.unsign s).length ≤ s.length := by
      cases s with
      | nil => simp [Lx.unsign]
      | cons c t => simp only [Lx.unsign]; split <;> simp
    have hI : Lx.intForm s = (!(Lx.unsign s).isEmpty && (Lx.unsign s).all Lx.dig) := rfl
    rw [hI] at hK
    generalize Lx.unsign s = u at *
    unfold S_foliantref03_Integer_0
    refine loop (fun vs w' => ∃ (i : Nat), vs = [.int .i64 i] ∧ i ≤ u.length ∧ u.all Lx.dig = (u.drop i).all Lx.dig ∧ w = w') (fun vs _ => u.length - n0 vs) ⟨0, rfl, by omega, rfl, rfl⟩ ?_
    rintro vs w2 ⟨i, rfl, hi, he, rfl⟩ _
    simp only [S_foliantref03_Integer_1, gd, s_len Tryz.underlying9]
    rw [b_lss]
    by_cases hlt : (i : Int) < (u.length : Int)
    · have hi2 : i < u.length := by omega
      have hne : u.isEmpty = false := by cases u with | nil => simp at hi2 | cons => rfl
      simp only [hlt, decide_true, i_t, s_at hi2]
      rw [all_drop hi2] at he
      by_cases h1 : (u[i].toNat : Int) < 48
      · simp only [rs, h1, decide_true, g_un]
        have hd : Lx.dig u[i] = false := by simp [Lx.dig]; omega
        exact hK _ _ ⟨by rw [he, hd, hne]; rfl, rfl⟩
      · by_cases h2 : (57 : Int) < (u[i].toNat : Int)
        · simp only [rs, h1, decide_false, s_at hi2, h2, decide_true]
          have hd : Lx.dig u[i] = false := by simp [Lx.dig]; omega
          exact hK _ _ ⟨by rw [he, hd, hne]; rfl, rfl⟩
        · simp only [rs, h1, decide_false, s_at hi2, h2]
          have hd : Lx.dig u[i] = true := by simp [Lx.dig]; omega
          rw [hd, Bool.true_and] at he
          rw [wrap64_id (by omega) (by omega)]
          exact nextX ⟨i + 1, rfl, by omega, he, rfl⟩ (by simp [n0, intOf]; omega)
    · have hi2 : i = u.length := by omega
      rw [show (⟨#[]⟩ : ByteArray) = ⟨([] : List UInt8).toArray⟩ from rfl]
      simp only [hlt, decide_false, i_f, rs]
      rw [hi2, List.drop_length, List.all_nil] at he
      refine hK _ _ ⟨?_, rfl⟩
      rw [he, Bool.and_true]
      cases u with
      | nil => rfl
      | cons => rfl
  rw [show (⟨#[]⟩ : ByteArray) = ⟨([] : List UInt8).toArray⟩ from rfl]
  cases s with
  | nil =>
    simp only [rs, ne_eq, not_true, decide_false, g_un]
    exact fin
  | cons c t =>
    have hx : ∀ {PK K}, DoX Tryz.prog (mIx 9 (.string ⟨(c :: t).toArray⟩) (.int .i64 0)) w PK K = K (.int .u8 (c.toNat : Int)) w := s_ix (c := c) Tryz.underlying9 (by omega) rfl
    have e1 := u8d c 43 43 rfl
    have e2 := u8d c 45 45 rfl
    have hne : ((c :: t) ≠ ([] : List UInt8)) := List.cons_ne_nil _ _
    simp only [rs, decide_eq_true hne, hx, e1]
    by_cases h1 : c = 43
    · simp only [rs, decide_eq_true h1, g_un]
      rw [s_from Tryz.underlying9 (by omega) (by simp; omega)]
      have : Lx.unsign (c :: t) = t := by simp [Lx.unsign, Lx.sgn, h1]
      rw [this] at fin
      exact fin
    · simp only [rs, decide_eq_false h1, hx, e2]
      by_cases h2 : c = 45
      · simp only [rs, decide_eq_true h2]
        rw [s_from Tryz.underlying9 (by omega) (by simp; omega)]
        have : Lx.unsign (c :: t) = t := by simp [Lx.unsign, Lx.sgn, h2]
        rw [this] at fin
        exact fin
      · simp only [rs, decide_eq_false h2]
        have : Lx.unsign (c :: t) = c :: t := by simp [Lx.unsign, Lx.sgn, h1, h2]
        rw [this] at fin
        exact fin
theorem val_le (l : List UInt8) : ∀ n, n ≤ Lx.val n l := by
  induction l with
  | nil => intro n; unfold Lx.val; exact Nat.le_refl n
  | cons c t ih =>
    intro n
    have h := ih (10 * n + (c.toNat - 48))
    unfold Lx.val at h ⊢
    rw [List.foldl_cons]
    omega
/-- The value of a run of digits with a sign: the sign counts nought. -/
def valS : Nat → List UInt8 → Nat
  | n, [] => n
  | n, c :: t => if Lx.sgn c then valS n t else valS (10 * n + (c.toNat - 48)) t
theorem rwhole_ret (s : List UInt8) (w : World) (hs : s.length ≤ 1099511627776) (hf : Lx.intForm s = true) : Ret Tryz.prog 176 #[.string ⟨s.toArray⟩] w (fun v w' => v = pair (Lx.whole s) ∧ w = w') := by
  refine ret_of fun K hK => S_foliantref03_whole_ok ?_
  unfold S_foliantref03_whole
  have hall : (Lx.unsign s).all Lx.dig = true := by
    rw [Lx.intForm, Bool.and_eq_true] at hf; exact hf.2
  obtain ⟨c, t, rfl⟩ : ∃ c t, s = c :: t := by
    cases s with
    | nil => simp [Lx.intForm, Lx.unsign] at hf
    | cons c t => exact ⟨c, t, rfl⟩
  have hd1 : ∀ x ∈ t, Lx.dig x = true := by
    intro x hx
    refine List.all_eq_true.1 hall x ?_
    cases hc : Lx.sgn c with
    | true => simpa [Lx.unsign, hc] using hx
    | false => simp [Lx.unsign, hc, hx]
  have hd0 : Lx.sgn c = false → Lx.dig c = true := by
    intro hc
    refine List.all_eq_true.1 hall c ?_
    simp [Lx.unsign, hc]
  have ns : ∀ x, Lx.dig x = true → Lx.sgn x = false := by
    intro x hx
    cases h : Lx.sgn x with
    | false => rfl
    | true => rw [sgn_not_dig x h] at hx; cases hx
  have hval : ∀ i, 1 ≤ i → i ≤ (c :: t).length → ∀ hi : i < (c :: t).length, Lx.dig (c :: t)[i] = true := by
    intro i h1 _ hi
    obtain ⟨j, rfl⟩ : ∃ j, i = j + 1 := ⟨i - 1, by omega⟩
    rw [List.getElem_cons_succ]
    exact hd1 _ (List.getElem_mem _)
  -- what stands behind i
  let rest (i : Nat) : List UInt8 := if i = 0 then Lx.unsign (c :: t) else (c :: t).drop i
  refine loop (fun vs w' => ∃ (i n : Nat), vs = [.int .i64 n, .int .i64 i] ∧ i ≤ (c :: t).length ∧ n ≤ 2147483647 ∧ Lx.val 0 (Lx.unsign (c :: t)) = Lx.val n (rest i) ∧ w = w') (fun vs _ => (c :: t).length - n1 vs) ⟨0, 0, rfl, by omega, by omega, rfl, rfl⟩ ?_
  rintro vs w2 ⟨i, n, rfl, hi, hn, he, rfl⟩ _
  simp only [S_foliantref03_whole_0, gd, s_len Tryz.underlying9]
  rw [b_lss]
  by_cases hlt : (i : Int) < ((c :: t).length : Int)
  · have hi2 : i < (c :: t).length := by omega
    simp only [hlt, decide_true, i_t]
    refine join fun J hJ => ?_
    simp only [s_at hi2]
    have e1 := u8d (c :: t)[i] 43 43 rfl
    have e2 := u8d (c :: t)[i] 45 45 rfl
    have go : ∀ n' : Nat, n' ≤ 2147483647 → Lx.val 0 (Lx.unsign (c :: t)) = Lx.val n' ((c :: t).drop (i + 1)) → J [.int .i64 n'] w := by
      intro n' h1 h2
      refine hJ _ _ fun _ => ?_
      simp only [S_foliantref03_whole_1, gd, rs]
      rw [wrap64_id (by omega) (by omega)]
      exact nextX ⟨i + 1, n', rfl, by omega, h1, h2, rfl⟩ (by simp [n1, intOf] at hi2 ⊢; omega)
    have skip : Lx.sgn (c :: t)[i] = true → J [.int .i64 n] w := by
      intro h
      rcases Nat.eq_zero_or_pos i with rfl | h0
      · refine go n hn ?_
        rw [he]
        have hc : Lx.sgn c = true := h
        simp [rest, Lx.unsign, hc]
      · rw [ns _ (hval i h0 hi hi2)] at h; cases h
    by_cases h1 : (c :: t)[i] = 43
    · simp only [rs, e1, decide_eq_true h1, g_un]
      exact skip (by rw [h1]; rfl)
    simp only [rs, e1, decide_eq_false h1, s_at hi2]
    by_cases h2 : (c :: t)[i] = 45
    · simp only [rs, e2, decide_eq_true h2]
      exact skip (by rw [h2]; rfl)
    simp only [rs, e2, decide_eq_false h2, s_at hi2]
    have hsg : Lx.sgn (c :: t)[i] = false := by simp only [Lx.sgn, h1, h2, decide_false, Bool.or_false]
    have hdg : Lx.dig (c :: t)[i] = true := by
      rcases Nat.eq_zero_or_pos i with rfl | h0
      · exact hd0 hsg
      · exact hval i h0 hi hi2
    have hd2 : 48 ≤ (c :: t)[i].toNat ∧ (c :: t)[i].toNat ≤ 57 := by simpa [Lx.dig] using hdg
    have hrest : rest i = (c :: t)[i] :: (c :: t).drop (i + 1) := by
      rcases Nat.eq_zero_or_pos i with rfl | h0
      · have hc : Lx.sgn c = false := hsg
        simp [rest, Lx.unsign, hc]
      · simp only [rest, if_neg (show ¬ i = 0 by omega)]
        exact Lx.drop_cons hi2
    have hstep : Lx.val n (rest i) = Lx.val (10 * n + ((c :: t)[i].toNat - 48)) ((c :: t).drop (i + 1)) := by
      rw [hrest]; unfold Lx.val; rw [List.foldl_cons]
    rw [wrap64_id (n := 10 * (n : Int)) (by omega) (by omega), c_int (show (Tryz.prog.underlying 5).isSome = true by kernel_rfl) Tryz.underlying2, wrap64_id (n := ((c :: t)[i].toNat : Int)) (by omega) (by omega)]
    simp only [rs]
    rw [wrap64_id (n := 10 * (n : Int) + ((c :: t)[i].toNat : Int)) (by omega) (by omega), wrap64_id (by omega) (by omega)]
    rw [show 10 * (n : Int) + ((c :: t)[i].toNat : Int) - 48 = ((10 * n + ((c :: t)[i].toNat - 48) : Nat) : Int) by omega]
    by_cases hbig : (2147483647 : Int) < ((10 * n + ((c :: t)[i].toNat - 48) : Nat) : Int)
    · simp only [hbig, decide_true, i_t]
      have hv := val_le ((c :: t).drop (i + 1)) (10 * n + ((c :: t)[i].toNat - 48))
      exact hK _ _ ⟨by rw [Lx.whole, if_pos (by rw [he, hstep]; omega)], rfl⟩
    · simp only [hbig, decide_false, i_f]
      exact go _ (by omega) (by rw [he, hstep])
  · have hi2 : i = (c :: t).length := by omega
    simp only [hlt, decide_false, i_f]
    have hr : rest i = [] := by
      simp only [rest, if_neg (show ¬ i = 0 by rw [hi2]; simp)]
      rw [hi2, List.drop_length]
    rw [hr] at he
    have he : Lx.val 0 (Lx.unsign (c :: t)) = n := he
    refine join fun J hJ => ?_
    rw [s_ix (c := c) Tryz.underlying9 (by omega) rfl]
    have e1 := u8d c 45 45 rfl
    by_cases h45 : c = 45
    · simp only [rs, e1, decide_eq_true h45]
      refine hJ _ _ fun _ => ?_
      simp only [S_foliantref03_whole_2, gd]
      rw [wrap64_id (by omega) (by omega)]
      exact hK _ _ ⟨by rw [Lx.whole, if_neg (by omega), if_pos (by rw [h45]; rfl), he], rfl⟩
    · simp only [rs, e1, decide_eq_false h45]
      refine hJ _ _ fun _ => ?_
      simp only [S_foliantref03_whole_2, gd]
      exact hK _ _ ⟨by rw [Lx.whole, if_neg (by omega), if_neg (by simpa using h45), he], rfl⟩
end Go.Proofs.YtihjejmmldpelaaGreatDoor
/- Contracts of foliantref03: point, long, word, name. -/
namespace Go.Proofs.YtihjejmmldpelaaGreatDoor
set_option linter.unusedVariables false
set_option linter.unusedSimpArgs false
set_option linter.defProp false
open Eng Go.RowKit

theorem rpoint_ret (s : List UInt8) (w : World) (hs : s.length ≤ 1099511627776) : Ret Tryz.prog 177 #[.string ⟨s.toArray⟩] w (fun v w' => v = .bool (s.contains 46) ∧ w = w') := by
  refine ret_of fun K hK => S_foliantref03_point_ok ?_
  unfold S_foliantref03_point
  refine loop (fun vs w' => ∃ (i : Nat), vs = [.int .i64 i] ∧ i ≤ s.length ∧ s.contains 46 = (s.drop i).contains 46 ∧ w = w') (fun vs _ => s.length - n0 vs) ⟨0, rfl, by omega, rfl, rfl⟩ ?_
  rintro vs w2 ⟨i, rfl, hi, he, rfl⟩ _
  simp only [S_foliantref03_point_0, gd, s_len Tryz.underlying9]
  rw [b_lss]
  by_cases hlt : (i : Int) < (s.length : Int)
  · have hi2 : i < s.length := by omega
    simp only [hlt, decide_true, i_t, s_at hi2]
    rw [Lx.drop_cons hi2, List.contains_cons] at he
    have e1 := u8d s[i] 46 46 rfl
    by_cases h : s[i] = 46
    · simp only [rs, e1, decide_eq_true h]
      exact hK _ _ ⟨by rw [he, h]; rfl, rfl⟩
    · simp only [rs, e1, decide_eq_false h]
      have hb : ((46 : UInt8) == s[i]) = false := by simpa using fun e : 46 = s[i] => h e.symm
      rw [hb, Bool.false_or] at he
      rw [wrap64_id (by omega) (by omega)]
      exact nextX ⟨i + 1, rfl, by omega, he, rfl⟩ (by simp [n0, intOf]; omega)
  · have hi2 : i = s.length := by omega
    simp only [hlt, decide_false, i_f]
    rw [hi2, List.drop_length] at he
    exact hK _ _ ⟨by rw [he]; rfl, rfl⟩
def wordR (t : List UInt8) : Lx.Tok × Int :=
  if Lx.intForm t then (⟨1, 0, 0, (Lx.whole t).1, []⟩, (Lx.whole t).2)
  else if t.contains 46 ∧ ((Fx.read t).2 = 0 ∨ (Fx.read t).2 = 2) then (⟨2, 0, 0, (Fx.read t).1, []⟩, (Fx.read t).2)
  else if 127 < t.length then Lx.refused 5
  else (⟨5, 0, 0, 0, t⟩, 0)
theorem wordR_wordT (t : List UInt8) (a r : Int) : Lx.wordT t a r = if (wordR t).2 ≠ 0 then Lx.refused (wordR t).2 else ({ (wordR t).1 with a := a, t := r }, 0) := by
  by_cases h1 : Lx.intForm t = true
  · have hW : wordR t = (⟨1, 0, 0, (Lx.whole t).1, []⟩, (Lx.whole t).2) := by rw [wordR, if_pos h1]
    rw [hW, Lx.wordT, if_pos h1]
  by_cases h2 : t.contains 46 = true ∧ (Fx.read t).2 = 0
  · have hW : wordR t = (⟨2, 0, 0, (Fx.read t).1, []⟩, 0) := by rw [wordR, if_neg h1, if_pos ⟨h2.1, .inl h2.2⟩, h2.2]
    rw [hW, Lx.wordT, if_neg h1, if_pos h2]; simp
  by_cases h3 : t.contains 46 = true ∧ (Fx.read t).2 = 2
  · have hW : wordR t = (⟨2, 0, 0, (Fx.read t).1, []⟩, 2) := by rw [wordR, if_neg h1, if_pos ⟨h3.1, .inr h3.2⟩, h3.2]
    rw [hW, Lx.wordT, if_neg h1, if_neg h2, if_pos h3]; simp
  have hn : ¬ (t.contains 46 = true ∧ ((Fx.read t).2 = 0 ∨ (Fx.read t).2 = 2)) := by
    rintro ⟨h, h' | h'⟩
    · exact h2 ⟨h, h'⟩
    · exact h3 ⟨h, h'⟩
  rw [Lx.wordT, if_neg h1, if_neg h2, if_neg h3, Lx.told]
  by_cases h4 : 127 < t.length
  · have hW : wordR t = Lx.refused 5 := by rw [wordR, if_neg h1, if_neg hn, if_pos h4]
    rw [hW, if_pos (by omega)]; simp [Lx.refused]
  · have hW : wordR t = (⟨5, 0, 0, 0, t⟩, 0) := by rw [wordR, if_neg h1, if_neg hn, if_neg h4]
    rw [hW, if_neg (by omega)]; simp
theorem read_long {t : List UInt8} (h : 508 < t.length) : (Fx.read t).2 = 3 := by
  rw [Fx.read, if_neg]
  simp [Fx.form]; omega
section
variable {w : World} {PK : List PanicEntry → World → Prop} {K : Value → World → Prop}
theorem m_tok03 {k n : Int} : DoX Tryz.prog (mBuild 41 #[(0, .int .i64 k), (3, .int .i64 n)]) w PK K = K (tokV ⟨k, 0, 0, n, []⟩) w := do_eq (by kernel_rfl)
theorem m_tok04 {k : Int} {s : List UInt8} : DoX Tryz.prog (mBuild 41 #[(0, .int .i64 k), (4, .string ⟨s.toArray⟩)]) w PK K = K (tokV ⟨k, 0, 0, 0, s⟩) w := do_eq (by kernel_rfl)
theorem m_tok012 {k a t : Int} : DoX Tryz.prog (mBuild 41 #[(0, .int .i64 k), (1, .int .i64 a), (2, .int .i64 t)]) w PK K = K (tokV ⟨k, a, t, 0, []⟩) w := do_eq (by kernel_rfl)
end
theorem rlong_ret (s : List UInt8) (w : World) (hs : s.length ≤ 1099511627776) (hl : 508 < s.length) : Ret Tryz.prog 174 #[.string ⟨s.toArray⟩] w (fun v w' => v = tokR (wordR s) ∧ Below w.heap.size w w') := by
  refine ret_of fun K hK => S_foliantref03_long_ok ?_
  unfold S_foliantref03_long
  refine o_tok (Own.start w) fun b w1 ho => ?_
  refine c_eq (rinteger_ret s w1 hs) ?_
  by_cases hi : Lx.intForm s = true
  · simp only [hi, rs, Bool.not_true]
    refine c_eq (rwhole_ret s w1 hs hi) ?_
    simp only [pair, ex, m_tok03]
    exact tok_put 0 ho rfl fun w' ho => hK _ _ ⟨by rw [wordR, if_pos hi], ho.done⟩
  · have hi' : Lx.intForm s = false := by simpa using hi
    simp only [hi', rs, Bool.not_false, m_tok0]
    refine tok_put 0 ho rfl fun w' ho => hK _ _ ⟨?_, ho.done⟩
    rw [wordR, if_neg hi, if_neg (by rw [read_long hl]; rintro ⟨_, h | h⟩ <;> cases h), if_pos (by omega)]
    rfl
 attribute [local congr] g_congr in
theorem rword_ret (s : List UInt8) (w : World) (hs : s.length ≤ 1099511627776) : Ret Tryz.prog 151 #[.string ⟨s.toArray⟩] w (fun v w' => v = tokR (wordR s) ∧ Below w.heap.size w w') := by
  refine ret_of fun K hK => S_foliantref03_word_ok ?_
  unfold S_foliantref03_word
  refine o_tok (Own.start w) fun b w1 ho => ?_
  by_cases hl : (508 : Int) < (s.length : Int)
  · simp only [s_len Tryz.underlying9, rs, hl, decide_true]
    exact tok_tail 0 ho rfl (rlong_ret s w1 hs (by omega)) fun w' hb => hK _ _ ⟨rfl, hb⟩
  simp only [s_len Tryz.underlying9, rs, hl, decide_false]
  refine c_eq (rinteger_ret s w1 hs) ?_
  by_cases hi : Lx.intForm s = true
  · simp only [hi, i_t]
    refine c_eq (rwhole_ret s w1 hs hi) ?_
    simp only [pair, ex, m_tok03]
    exact tok_put 0 ho rfl fun w' ho => hK _ _ ⟨by rw [wordR, if_pos hi], ho.done⟩
  have hi' : Lx.intForm s = false := by simpa using hi
  simp only [hi', i_f]
  refine join fun J hJ => ?_
  have fin : ∀ w2 n, Own w w2 [tokE b Lx.none_] → ¬ (s.contains 46 = true ∧ ((Fx.read s).2 = 0 ∨ (Fx.read s).2 = 2)) → J [.int .i64 n] w2 := by
    intro w2 n ho hn
    refine hJ _ _ fun _ => ?_
    simp only [S_foliantref03_word_0, s_len Tryz.underlying9, rs]
    by_cases h : (127 : Int) < (s.length : Int)
    · simp only [h, decide_true, i_t, m_tok0]
      exact tok_put 0 ho rfl fun w' ho => hK _ _ ⟨by rw [wordR, if_neg hi, if_neg hn, if_pos (by omega)]; rfl, ho.done⟩
    · simp only [h, decide_false, i_f, m_tok04]
      exact tok_put 0 ho rfl fun w' ho => hK _ _ ⟨by rw [wordR, if_neg hi, if_neg hn, if_neg (by omega)], ho.done⟩
  refine c_eq (rpoint_ret s w1 hs) ?_
  by_cases hp : s.contains 46 = true
  · simp only [hp, i_t]
    refine c_below ho (rread_ret s w1 (by omega)) ?_
    rintro _ w2 rfl ho
    simp only [pair, ex]
    by_cases h1 : (Fx.read s).2 = 0 ∨ (Fx.read s).2 = 2
    · have hb : (decide ((Fx.read s).2 = 0) || decide ((Fx.read s).2 = 2)) = true := by simpa using h1
      simp +contextual only [rs, gs, hb, i_t, m_tok03]
      exact tok_put 0 ho rfl fun w' ho => hK _ _ ⟨by rw [wordR, if_neg hi, if_pos ⟨hp, h1⟩], ho.done⟩
    · have hb : (decide ((Fx.read s).2 = 0) || decide ((Fx.read s).2 = 2)) = false := by simpa using h1
      simp +contextual only [rs, gs, hb, i_f]
      exact fin _ _ ho fun h => h1 h.2
  · have hp' : s.contains 46 = false := by simpa using hp
    simp only [hp', i_f]
    exact fin _ _ ho fun h => hp h.1
def nameR (t : List UInt8) : List UInt8 × Int := match Lx.nameF t with
  | none => ([], 3)
  | some x => if 127 < x.length then ([], 5) else (x, 0)
theorem nameF_hash {t : List UInt8} {i : Nat} (h : i < t.length) (h35 : t[i] = 35) : Lx.nameF (t.drop i) = if h2 : i + 2 < t.length then (if Lx.digit t[i + 1] < 0 ∨ Lx.digit t[i + 2] < 0 ∨ 16 * Lx.digit t[i + 1] + Lx.digit t[i + 2] = 0 then none else (Lx.nameF (t.drop (i + 3))).map (Lx.byte (Lx.digit t[i + 1]) (Lx.digit t[i + 2]) :: ·)) else none := by
  rw [Lx.drop_cons h]
  by_cases h2 : i + 2 < t.length
  · rw [dif_pos h2, Lx.drop_cons (show i + 1 < t.length by omega), Lx.drop_cons (show i + 1 + 1 < t.length by omega), Lx.nameF, if_pos h35]
  · rw [dif_neg h2]
    cases hd : t.drop (i + 1) with
    | nil => simp [Lx.nameF, h35]
    | cons x u =>
      cases u with
      | nil => simp [Lx.nameF, h35]
      | cons y u =>
        have := congrArg List.length hd
        simp at this; omega
 attribute [local congr] g_congr in
theorem rnamet_ret (t : List UInt8) (w : World) (hs : t.length ≤ 1099511627776) : Ret Tryz.prog 148 #[.string ⟨t.toArray⟩] w (fun v w' => v = .tuple #[.string ⟨(nameR t).1.toArray⟩, .int .i64 (nameR t).2] ∧ Below w.heap.size w w') := by
  refine ret_of fun K hK => S_foliantref03_name_ok ?_
  unfold S_foliantref03_name
  refine loop (fun vs w' => ∃ (i : Nat) (v : Value) (acc : List UInt8), vs = [v, .int .i64 i] ∧ i ≤ t.length ∧ acc.length ≤ i ∧ Lx.nameF t = (Lx.nameF (t.drop i)).map (acc ++ ·) ∧ Own w w' [BRow v acc])
    (fun vs _ => t.length - n1 vs) ⟨0, _, [], rfl, by omega, by simp, by simp, (Own.start w).nilRow _ 1⟩ ?_
  rintro vs w4 ⟨i, v, acc, rfl, hi, hacc, he, ho⟩ _
  simp only [S_foliantref03_name_0, gd, s_len Tryz.underlying9]
  rw [b_lss]
  have bad : ∀ {w5}, Own w w5 [BRow v acc] → Lx.nameF (t.drop i) = none → K (.returned (.tuple #[.string ⟨#[]⟩, .int .i64 3])) w5 := by
    intro w5 ho hn
    rw [hn] at he
    exact hK _ _ ⟨by rw [nameR, he]; rfl, ho.done⟩
  by_cases hlt : (i : Int) < (t.length : Int)
  · have hi3 : i < t.length := by omega
    simp only [hlt, decide_true, i_t, s_at hi3]
    have e1 := u8d t[i] 35 35 rfl
    refine join fun J hJ => ?_
    have fin : ∀ (j : Nat) (c : UInt8) (n : Int) (w5 : World), (c.toNat : Int) = n → i ≤ j → j < t.length → Lx.nameF t = (Lx.nameF (t.drop (j + 1))).map (acc ++ c :: ·) → Own w w5 [BRow v acc] → J [.int .i64 j, .int .u8 n] w5 := by
      intro j c n w5 hc hij hjt he ho
      refine hJ _ _ fun _ => ?_
      simp only [S_foliantref03_name_1, gd]
      refine o_app1 c hc ho (by omega) fun v' w6 ho => ?_
      rw [b_add, wrap64_id (by omega) (by omega)]
      refine nextX ⟨j + 1, v', acc ++ [c], rfl, by omega, by simp; omega, ?_, ho⟩ (by simp [n1, intOf]; omega)
      rw [he]
      congr 1
      funext x; simp
    by_cases h35 : t[i] = 35
    · simp only [rs, e1, decide_eq_true h35, s_len Tryz.underlying9]
      rw [wrap64_id (by omega) (by omega)]
      have hnf := nameF_hash hi3 h35
      by_cases hend : (t.length : Int) ≤ (i : Int) + 2
      · simp only [hend, decide_true, i_t]
        rw [dif_neg (by omega)] at hnf
        exact bad ho hnf
      · simp only [hend, decide_false, i_f]
        have hi6 : i + 2 < t.length := by omega
        have hi5 : i + 1 < t.length := by omega
        rw [dif_pos hi6] at hnf
        have b1 := Lx.digit_bd t[i + 1]
        have b2 := Lx.digit_bd t[i + 2]
        have hw1 : IntKind.wrap .i64 ((i : Int) + 1) = ((i + 1 : Nat) : Int) := by rw [wrap64_id (by omega) (by omega)]; omega
        have hw2 : IntKind.wrap .i64 ((i : Int) + 2) = ((i + 2 : Nat) : Int) := by rw [wrap64_id (by omega) (by omega)]; omega
        have hc1 : t[((i + 1 : Nat) : Int).toNat]? = some t[i + 1] := by rw [Int.toNat_natCast]; simp [hi5]
        have hc2 : t[((i + 2 : Nat) : Int).toNat]? = some t[i + 2] := by rw [Int.toNat_natCast]; simp [hi6]
        refine quiet (q_do (.int .i64 ((i + 1 : Nat) : Int)) (fun w => by rw [r_add, hw1]) ?_)
        refine q_do _ (fun w => run_s_ix (c := t[i + 1]) Tryz.underlying9 (Int.natCast_nonneg _) hc1) ?_
        refine q_call (.int .i64 (Lx.digit t[i + 1])) (fun w hb => ret_same (rdigit_ret t[i + 1] w) hb) ?_
        refine q_do (.int .i64 ((i + 2 : Nat) : Int)) (fun w => by rw [r_add, hw2]) ?_
        refine q_do _ (fun w => run_s_ix (c := t[i + 2]) Tryz.underlying9 (Int.natCast_nonneg _) hc2) ?_
        refine q_call (.int .i64 (Lx.digit t[i + 2])) (fun w hb => ret_same (rdigit_ret t[i + 2] w) hb) ?_
        intro w5 hb
        have ho := ho.grow hb
        have hw3 : IntKind.wrap .i64 (16 * Lx.digit t[i + 1]) = 16 * Lx.digit t[i + 1] := wrap64_id (by omega) (by omega)
        have hw4 : IntKind.wrap .i64 (16 * Lx.digit t[i + 1] + Lx.digit t[i + 2]) = 16 * Lx.digit t[i + 1] + Lx.digit t[i + 2] := wrap64_id (by omega) (by omega)
        simp +contextual only [rs, gs, hw3, hw4]
        by_cases hbad : Lx.digit t[i + 1] < 0 ∨ Lx.digit t[i + 2] < 0 ∨ 16 * Lx.digit t[i + 1] + Lx.digit t[i + 2] = 0
        · have hb2 : (decide (Lx.digit t[i + 1] < 0) || decide (Lx.digit t[i + 2] < 0) || decide (16 * Lx.digit t[i + 1] + Lx.digit t[i + 2] = 0)) = true := by
            simpa [or_assoc] using hbad
          simp only [hb2, i_t]
          rw [if_pos hbad] at hnf
          exact bad ho hnf
        · have hb2 : (decide (Lx.digit t[i + 1] < 0) || decide (Lx.digit t[i + 2] < 0) || decide (16 * Lx.digit t[i + 1] + Lx.digit t[i + 2] = 0)) = false := by
            rw [Bool.or_eq_false_iff, Bool.or_eq_false_iff]; simp only [decide_eq_false_iff_not]; exact ⟨⟨fun h => hbad (.inl h), fun h => hbad (.inr (.inl h))⟩, fun h => hbad (.inr (.inr h))⟩
          simp only [hb2, i_f]
          rw [if_neg hbad] at hnf
          have hb0 := byte_nat (a := Lx.digit t[i + 1]) (b := Lx.digit t[i + 2]) (by omega) (by omega) (by omega) (by omega)
          rw [c_8, wrap8_id (by omega) (by omega)]
          refine fin (i + 2) _ _ _ hb0 (by omega) (by omega) ?_ ho
          rw [he, hnf, Option.map_map]
          rfl
    · simp only [rs, e1, decide_eq_false h35]
      refine fin i t[i] _ _ rfl (by omega) hi3 ?_ ho
      rw [he, Lx.drop_cons hi3, Lx.nameF_ne h35, Option.map_map]
      rfl
  · have hi3 : i = t.length := by omega
    subst hi3
    rw [List.drop_length, Lx.nameF, Option.map_some, List.append_nil] at he
    simp only [hlt, decide_false, i_f, sl_len Tryz.underlying62 (ho.slRow 0 rfl), rs]
    by_cases h127 : (127 : Int) < (acc.length : Int)
    · simp only [h127, decide_true, i_t]
      exact hK _ _ ⟨by rw [nameR, he]; simp only; rw [if_pos (by omega)], ho.done⟩
    · simp only [h127, decide_false, i_f, o_strB 0 ho rfl]
      exact hK _ _ ⟨by rw [nameR, he]; simp only; rw [if_neg (by omega)], ho.done⟩
end Go.Proofs.YtihjejmmldpelaaGreatDoor
/- Contracts of foliantref03: escape, text, hex. -/
namespace Go.Proofs.YtihjejmmldpelaaGreatDoor
set_option linter.unusedVariables false
set_option linter.unusedSimpArgs false
set_option linter.defProp false
open Eng Go.RowKit

theorem o_appS {S : Nat → Prop} {w0 w : World} {L : List Ent} {v : Value} {l m : List UInt8} {cs : Array Bool} {PK : List PanicEntry → World → Prop} {K : Value → World → Prop}
    (ho : OwnS S w0 w (BRow v l :: L)) (hb : l.length + m.length ≤ 140737488355328) (k : ∀ v' w', OwnS S w0 w' (BRow v' (l ++ m) :: L) → K v' w') :
    DoX Tryz.prog (mB .append #[62, 9] 62 cs #[v, .string ⟨m.toArray⟩]) w PK K := by
  refine o_append_str 0 Tryz.underlying62 Tryz.underlying9 (show elB Tryz.prog 5 1 1 = true by kernel_rfl) Tryz.underlying5 (by kernel_rfl) ho rfl (by omega) fun v' w5 _ h5 => ?_
  refine k v' w5 ?_
  have e : BRow v' (l ++ m) = .row 5 1 v' (l.length + m.length) (bytesV l ++ bytesV m) := by
    rw [BRow, bytesV_append, List.length_append]
  rw [e]
  exact h5
def escs : List UInt8 := [110, 114, 116, 98, 102]
def escB : List UInt8 := [10, 13, 9, 8, 12]
theorem escL_hit : ∀ i : Fin 5, Lx.escL (escs[i.val]'(i.isLt)) = some (escB[i.val]'(i.isLt)) := by decide
theorem escL_miss (c : UInt8) (h : ∀ j (hj : j < 5), escs[j]'hj ≠ c) : Lx.escL c = none := by
  have h0 : (110 : UInt8) ≠ c := h 0 (by decide)
  have h1 : (114 : UInt8) ≠ c := h 1 (by decide)
  have h2 : (116 : UInt8) ≠ c := h 2 (by decide)
  have h3 : (98 : UInt8) ≠ c := h 3 (by decide)
  have h4 : (102 : UInt8) ≠ c := h 4 (by decide)
  have n : ∀ x : UInt8, x ≠ c → ¬ c = x := fun x hx e => hx e.symm
  rw [Lx.escL, if_neg (n _ h0), if_neg (n _ h1), if_neg (n _ h2), if_neg (n _ h3), if_neg (n _ h4)]
theorem rescape_ret (s : List UInt8) (a : Nat) (w : World) (hs : s.length ≤ 1099511627776) (h : a + 1 < s.length) : Ret Tryz.prog 172 #[.string ⟨s.toArray⟩, .int .i64 a] w (fun v w' => v = .tuple #[.string ⟨(Lx.escF (s.drop (a + 1))).1.toArray⟩, .int .i64 ((a + 1 + (Lx.escF (s.drop (a + 1))).2 : Nat) : Int)] ∧ Below w.heap.size w w') := by
  refine ret_of fun K hK => S_foliantref03_escape_ok ?_
  unfold S_foliantref03_escape
  have hw : ∀ k : Nat, k ≤ 100 → IntKind.wrap .i64 ((a : Int) + (k : Int)) = ((a + k : Nat) : Int) := fun k hk => by rw [wrap64_id (by omega) (by omega)]; omega
  have hw1 : IntKind.wrap .i64 ((a : Int) + 1) = ((a + 1 : Nat) : Int) := hw 1 (by omega)
  have hw2 : IntKind.wrap .i64 ((a : Int) + 2) = ((a + 2 : Nat) : Int) := hw 2 (by omega)
  have hw3 : IntKind.wrap .i64 ((a : Int) + 3) = ((a + 3 : Nat) : Int) := hw 3 (by omega)
  have hw4 : IntKind.wrap .i64 ((a : Int) + 4) = ((a + 4 : Nat) : Int) := hw 4 (by omega)
  simp only [rs, hw1, s_at h]
  have hd := Lx.drop_cons h
  generalize hc : s[a + 1] = c at *
  refine loop (fun vs w' => ∃ (i : Nat), vs = [.int .i64 i] ∧ i ≤ 5 ∧ (∀ j (hj : j < 5), j < i → escs[j]'hj ≠ c) ∧ w = w') (fun vs _ => 5 - n0 vs) ⟨0, rfl, by omega, fun j _ hj => absurd hj (by omega), rfl⟩ ?_
  rintro vs w2 ⟨i, rfl, hi, hmiss, rfl⟩ _
  simp only [S_foliantref03_escape_0, gd]
  rw [show (⟨#[110, 114, 116, 98, 102]⟩ : ByteArray) = ⟨escs.toArray⟩ from rfl, show (⟨#[10, 13, 9, 8, 12]⟩ : ByteArray) = ⟨escB.toArray⟩ from rfl, s_len Tryz.underlying9, b_lss, show ((escs.length : Nat) : Int) = 5 from rfl]
  by_cases hlt : (i : Int) < 5
  · have hi2 : i < 5 := by omega
    have hi3 : i < escs.length := hi2
    simp only [hlt, decide_true, i_t, s_at hi3]
    rw [e_int, show decide ((c.toNat : Int) = (escs[i].toNat : Int)) = decide (c = escs[i]) from u8d c _ _ rfl]
    by_cases he : c = escs[i]
    · simp only [decide_eq_true he, i_t, rs, hw2]
      rw [wrap64_id (by omega) (by omega), s_cut (s := escB) (i := i) (j := i + 1) rfl (by simp) (by omega) (by show i + 1 ≤ 5; omega), cut_one (s := escB) (i := i) hi2]
      have hh : Lx.escL c = some (escB[i]'hi2) := by rw [he]; exact escL_hit ⟨i, hi2⟩
      refine hK _ _ ⟨?_, (Own.start w).done⟩
      rw [hd, Lx.escF, hh]
      rfl
    · simp only [decide_eq_false he, i_f, rs]
      rw [wrap64_id (by omega) (by omega)]
      refine nextX ⟨i + 1, rfl, by omega, ?_, rfl⟩ (by simp [n0, intOf]; omega)
      intro j hj hji e
      rcases Nat.lt_or_ge j i with h1 | h1
      · exact hmiss j hj h1 e
      · have : j = i := by omega
        subst this
        exact he e.symm
  · have hi2 : i = 5 := by omega
    have hl : Lx.escL c = none := escL_miss c fun j hj => hmiss j hj (by omega)
    simp only [hlt, decide_false, i_f]
    have e1 := u8d c 13 13 rfl
    have e2 := u8d c 10 10 rfl
    have hEol : ∀ n, Lx.eol c = true → Lx.lineF (c :: s.drop (a + 1 + 1)) = n → Lx.escF (s.drop (a + 1)) = ([], n) := by
      intro n h1 h2
      rw [hd, Lx.escF, hl]
      simp only [h1, if_true, h2]
    by_cases g1 : c = 13
    · have g10 : ¬ c = 10 := by rw [g1]; decide
      have one : (¬ (s.drop (a + 1 + 1)).head? = some 10) → K (.returned (.tuple #[.string ⟨#[]⟩, .int .i64 ((a + 2 : Nat) : Int)])) w := by
        intro hh
        refine hK _ _ ⟨?_, (Own.start w).done⟩
        rw [hEol 1 (by simp [Lx.eol, g1]) (by rw [Lx.lineF, if_neg g10, if_pos g1, if_neg hh])]
        rfl
      by_cases g2 : ((a + 2 : Nat) : Int) < (s.length : Int)
      · have ha2 : a + 2 < s.length := by omega
        have hd2 := Lx.drop_cons ha2
        simp only [rs, e1, decide_eq_true g1, hw2, s_len Tryz.underlying9, g2, decide_true, s_at ha2]
        have e3 := u8d s[a + 2] 10 10 rfl
        by_cases g3 : s[a + 2] = 10
        · simp only [rs, e3, decide_eq_true g3, hw3]
          refine hK _ _ ⟨?_, (Own.start w).done⟩
          rw [hEol 2 (by simp [Lx.eol, g1]) (by rw [Lx.lineF, if_neg g10, if_pos g1, if_pos (by rw [show a + 1 + 1 = a + 2 from rfl, hd2, List.head?_cons, g3])])]
          rfl
        · simp only [rs, e3, decide_eq_false g3, g_un, e1, decide_eq_true g1, hw2]
          exact one (by rw [show a + 1 + 1 = a + 2 from rfl, hd2, List.head?_cons]; simpa using g3)
      · simp only [rs, e1, decide_eq_true g1, hw2, s_len Tryz.underlying9, g2, decide_false, g_un]
        exact one (by rw [List.drop_eq_nil_of_le (by omega)]; simp)
    simp only [rs, e1, decide_eq_false g1, g_un]
    by_cases g2 : c = 10
    · simp only [rs, e2, decide_eq_true g2, hw2]
      refine hK _ _ ⟨?_, (Own.start w).done⟩
      rw [hEol 1 (by simp [Lx.eol, g2]) (by rw [Lx.lineF, if_pos g2])]
      rfl
    simp only [rs, e2, decide_eq_false g2, hw1]
    have hE : Lx.escF (s.drop (a + 1)) = if 0 < (Lx.octF 3 0 (s.drop (a + 1))).2 then ([UInt8.ofNat (Lx.octF 3 0 (s.drop (a + 1))).1], (Lx.octF 3 0 (s.drop (a + 1))).2) else ([c], 1) := by
      rw [hd, Lx.escF, hl]
      simp only [Lx.eol, g1, g2, decide_false, Bool.or_false, Bool.false_eq_true, if_false]
    refine loop (fun vs w' => ∃ (j n : Nat), vs = [.int .i64 n, .int .i64 j] ∧ a + 1 ≤ j ∧ j ≤ a + 4 ∧ j ≤ s.length ∧ n < 8 ^ (j - (a + 1)) ∧ Lx.octF 3 0 (s.drop (a + 1)) = ((Lx.octF (3 - (j - (a + 1))) n (s.drop j)).1, (Lx.octF (3 - (j - (a + 1))) n (s.drop j)).2 + (j - (a + 1))) ∧ w = w')
      (fun vs _ => a + 4 - n1 vs) ⟨a + 1, 0, rfl, by omega, by omega, by omega, by simp, by simp, rfl⟩ ?_
    rintro vs w3 ⟨j, n, rfl, hj1, hj2, hj3, hn, ho8, rfl⟩ _
    simp only [S_foliantref03_escape_1, gd, s_len Tryz.underlying9]
    have hn2 : n < 512 := Nat.lt_of_lt_of_le hn (Nat.pow_le_pow_right (by decide) (by omega : j - (a + 1) ≤ 3))
    have stop : Lx.octF (3 - (j - (a + 1))) n (s.drop j) = (n, 0) → DoX Tryz.prog (mBin .add 3 (.int .i64 a) (.int .i64 1)) w (pk K) fun t96 w =>
        DoX Tryz.prog (mBin .gtr 3 (.int .i64 j) t96) w (pk K) fun t97 w =>
        IfX t97 (DoX Tryz.prog (mBin .rem 3 (.int .i64 n) (.int .i64 256)) w (pk K) fun t99 w =>
        DoX Tryz.prog (mConv 3 5 t99) w (pk K) fun t100 w =>
        DoX Tryz.prog (mBuildS 62 1 #[(0, t100)]) w (pk K) fun t101 w =>
        DoX Tryz.prog (mConv 62 9 t101) w (pk K) fun t102 w =>
        K (.returned (.tuple #[t102, .int .i64 j])) w) (DoX Tryz.prog (mBin .add 3 (.int .i64 a) (.int .i64 1)) w (pk K) fun t106 w =>
        DoX Tryz.prog (mBin .add 3 (.int .i64 a) (.int .i64 2)) w (pk K) fun t108 w =>
        DoX Tryz.prog (mSlice 9 (.string ⟨s.toArray⟩) (some t106) (some t108) none) w (pk K) fun t109 w =>
        DoX Tryz.prog (mBin .add 3 (.int .i64 a) (.int .i64 2)) w (pk K) fun t111 w =>
        K (.returned (.tuple #[t109, t111])) w) := by
      intro h0
      rw [h0] at ho8
      simp only [rs, hw1, hw2]
      by_cases hij : ((a + 1 : Nat) : Int) < (j : Int)
      · simp only [hij, decide_true, i_t]
        rw [b_rem (by omega), c_8, wrap8_mod, Int.tmod_eq_emod_of_nonneg (by omega)]
        refine o_str1 (UInt8.ofNat n) (by rw [UInt8.toNat_ofNat']; omega) (Own.start w) fun w' ho => ?_
        refine hK _ _ ⟨?_, ho.done⟩
        rw [hE, ho8, if_pos (by simp; omega)]
        simp only
        rw [show a + 1 + (0 + (j - (a + 1))) = j by omega]
      · simp only [hij, decide_false, i_f]
        rw [s_cut (i := a + 1) (j := a + 2) rfl rfl (by omega) (by omega), show Lx.cut s (a + 1) (a + 2) = [s[a + 1]] from cut_one h, hc]
        refine hK _ _ ⟨?_, (Own.start w).done⟩
        rw [hE, ho8, if_neg (by simp; omega)]
        rfl
    by_cases hlt : (j : Int) < (s.length : Int)
    · have hj4 : j < s.length := by omega
      have hdj := Lx.drop_cons hj4
      by_cases hj5 : (j : Int) < ((a + 4 : Nat) : Int)
      · obtain ⟨m, hm⟩ : ∃ m, 3 - (j - (a + 1)) = m + 1 := ⟨3 - (j - (a + 1)) - 1, by omega⟩
        rw [hm, hdj, Lx.octF] at ho8
        by_cases h48 : (48 : Int) ≤ (s[j].toNat : Int)
        · by_cases h55 : (s[j].toNat : Int) ≤ 55
          · have hoct : Lx.oct s[j] = true := by simp [Lx.oct]; omega
            simp only [hlt, decide_true, rs, hw4, hj5, s_at hj4, h48, h55]
            rw [c_64 (by omega) (by omega)]
            simp only [rs]
            rw [wrap64_id (n := 8 * (n : Int)) (by omega) (by omega), wrap64_id (n := 8 * (n : Int) + (s[j].toNat : Int)) (by omega) (by omega), wrap64_id (by omega) (by omega), wrap64_id (by omega) (by omega)]
            rw [if_pos hoct] at ho8
            refine nextX ⟨j + 1, 8 * n + (s[j].toNat - 48), by simp; omega, by omega, by omega, by omega, ?_, ?_, rfl⟩ (by simp [n1, intOf]; omega)
            · rw [show j + 1 - (a + 1) = (j - (a + 1)) + 1 by omega, Nat.pow_succ]; omega
            · rw [ho8, show 3 - (j + 1 - (a + 1)) = m by omega]
              refine Prod.ext rfl ?_
              simp only; omega
          · have hst := stop (by rw [hm, hdj, Lx.octF, if_neg]; simp [Lx.oct]; omega)
            simp only [rs, hlt, decide_true, hw4, hj5, s_at hj4, h48, h55, decide_false, g_un] at hst ⊢
            exact hst
        · have hst := stop (by rw [hm, hdj, Lx.octF, if_neg]; simp [Lx.oct]; omega)
          simp only [rs, hlt, decide_true, hw4, hj5, s_at hj4, h48, decide_false, g_un] at hst ⊢
          exact hst
      · have hst := stop (by rw [show 3 - (j - (a + 1)) = 0 by omega, Lx.octF])
        simp only [rs, hlt, decide_true, hw4, hj5, decide_false, g_un] at hst ⊢
        exact hst
    · have hst := stop (by rw [show j = s.length by omega, List.drop_length]; cases 3 - (s.length - (a + 1)) <;> rfl)
      simp only [rs, hlt, decide_false, g_un] at hst ⊢
      exact hst
end Go.Proofs.YtihjejmmldpelaaGreatDoor
/- Contracts of foliantref03: text, hex. -/
namespace Go.Proofs.YtihjejmmldpelaaGreatDoor
set_option linter.unusedVariables false
set_option linter.unusedSimpArgs false
set_option linter.defProp false
open Eng Go.RowKit

def strR (s : List UInt8) (at_ : Nat) (r : (List UInt8 × Nat) ⊕ Int) : Value :=
  match r with
  | .inr e => .tuple #[.string ⟨#[]⟩, .int .i64 0, .int .i64 e]
  | .inl r => if 32767 < r.1.length then .tuple #[.string ⟨#[]⟩, .int .i64 0, .int .i64 5] else .tuple #[.string ⟨r.1.toArray⟩, .int .i64 ((at_ + r.2 : Nat) : Int), .int .i64 0]
def textR (s : List UInt8) (at_ : Nat) : (List UInt8 × Nat) ⊕ Int := match Lx.textG 0 1 (s.drop at_) with | none => .inr 4 | some r => .inl r
theorem rlit_ret (s : List UInt8) (a : Nat) (w : World) (hs : s.length ≤ 1099511627776) (ha : a ≤ s.length) : Ret Tryz.prog 149 #[.string ⟨s.toArray⟩, .int .i64 a] w (fun v w' => v = strR s a (textR s a) ∧ Below w.heap.size w w') := by
  refine ret_of fun K hK => S_foliantref03_text_ok ?_
  unfold S_foliantref03_text
  refine loop (fun vs w' => ∃ (i o : Nat) (v : Value) (acc : List UInt8), vs = [.int .i64 i, v, .int .i64 o] ∧ a ≤ i ∧ i ≤ s.length ∧ 1 ≤ o ∧ o ≤ i + 1 ∧ acc.length ≤ i ∧ Lx.textG 0 1 (s.drop a) = (Lx.textG 0 o (s.drop i)).map (fun r => (acc ++ r.1, r.2 + (i - a))) ∧ Own w w' [BRow v acc])
    (fun vs _ => s.length - n0 vs) ⟨a, 1, _, [], rfl, by omega, ha, by omega, by omega, by simp, by simp, (Own.start w).nilRow _ 1⟩ ?_
  rintro vs w4 ⟨i, o, v, acc, rfl, hi1, hi2, ho1, ho2, hacc, he, ho⟩ _
  simp only [S_foliantref03_text_0, gd, s_len Tryz.underlying9]
  rw [b_lss]
  have bad : ∀ {w5}, Own w w5 [BRow v acc] → Lx.textG 0 o (s.drop i) = none → K (.returned (.tuple #[.string ⟨#[]⟩, .int .i64 0, .int .i64 4])) w5 := by
    intro w5 ho hn
    rw [hn, Option.map_none] at he
    exact hK _ _ ⟨by rw [textR, he]; rfl, ho.done⟩
  by_cases hlt : (i : Int) < (s.length : Int)
  · have hi3 : i < s.length := by omega
    have hd := Lx.drop_cons hi3
    have hw1 : IntKind.wrap .i64 ((i : Int) + 1) = ((i + 1 : Nat) : Int) := by rw [wrap64_id (by omega) (by omega)]; omega
    simp only [hlt, decide_true, i_t, s_at hi3]
    have e1 := u8d s[i] 92 92 rfl
    have e2 := u8d s[i] 40 40 rfl
    have e3 := u8d s[i] 41 41 rfl
    have e4 := u8d s[i] 13 13 rfl
    by_cases g1 : s[i] = 92
    · have hne : ¬ (Lx.eol s[i] = true) := by rw [g1]; decide
      simp only [rs, e1, decide_eq_true g1, hw1, s_len Tryz.underlying9]
      by_cases hend : (s.length : Int) ≤ ((i + 1 : Nat) : Int)
      · simp only [hend, decide_true, i_t]
        refine bad ho ?_
        rw [hd, Lx.textG, if_neg hne, if_pos g1, if_pos (List.drop_eq_nil_of_le (by omega))]
      · have hi4 : i + 1 < s.length := by omega
        simp only [hend, decide_false, i_f]
        have hel := Lx.escF_le (s.drop (i + 1))
        rw [List.length_drop] at hel
        refine c_below ho (rescape_ret s i w4 hs hi4) ?_
        rintro _ w6 rfl ho
        rw [x_0, x_1]
        have hxl : (Lx.escF (s.drop (i + 1))).1.length ≤ 1 := by
          rw [Lx.drop_cons hi4, Lx.escF]
          split
          · simp
          · split
            · simp
            · split <;> simp
        refine o_appS ho (by omega) fun v' w7 ho => ?_
        refine nextX ⟨i + 1 + (Lx.escF (s.drop (i + 1))).2, o, v', acc ++ (Lx.escF (s.drop (i + 1))).1, rfl, by omega, by omega, ho1, by omega, by simp; omega, ?_, ho⟩ (by simp [n0, intOf]; omega)
        rw [he, textG_esc hi4 g1, Option.map_map]
        congr 1
        funext r
        refine Prod.ext (by simp) ?_
        simp only [Function.comp]; omega
    simp only [rs, e1, decide_eq_false g1]
    refine join fun J2 hJ2 => ?_
    have fin : ∀ o' : Nat, (s[i] = 40 → o' = o + 1) → (s[i] ≠ 40 → o' = o) → J2 [.int .i64 o'] w4 := by
      intro o' h40 hn40
      refine hJ2 _ _ fun _ => ?_
      simp only [S_foliantref03_text_1, gd]
      refine join fun J3 hJ3 => ?_
      have fin3 : ∀ o' : Nat, 1 ≤ o' → o' ≤ i + 2 → (Lx.eol s[i] = true → o' = o) → (Lx.eol s[i] = false → Lx.textG 0 1 (s.drop a) = (Lx.textG 0 o' (s.drop (i + 1))).map (fun r => (acc ++ s[i] :: r.1, r.2 + 1 + (i - a)))) → J3 [.int .i64 o'] w4 := by
        intro o' h1 h2 heol hgen
        refine hJ3 _ _ fun _ => ?_
        simp only [S_foliantref03_text_2, gd]
        refine join fun J4 hJ4 => ?_
        have fin4 : ∀ (k : Nat) (c : UInt8), i ≤ k → k < s.length → (c = if s[i] = 13 then 10 else s[i]) → Lx.textG 0 1 (s.drop a) = (Lx.textG 0 o' (s.drop (k + 1))).map (fun r => (acc ++ c :: r.1, r.2 + (k + 1 - a))) → J4 [.int .i64 k] w4 := by
          intro k c hk1 hk2 hc hT
          refine hJ4 _ _ fun _ => ?_
          simp only [S_foliantref03_text_3, gd]
          refine join fun J5 hJ5 => ?_
          have fin5 : ∀ n : Int, (c.toNat : Int) = n → J5 [.int .u8 n] w4 := by
            intro n hn
            refine hJ5 _ _ fun _ => ?_
            simp only [S_foliantref03_text_4, gd]
            refine o_app1 c hn ho (by omega) fun v' w6 ho => ?_
            rw [b_add, wrap64_id (by omega) (by omega)]
            refine nextX ⟨k + 1, o', v', acc ++ [c], rfl, by omega, by omega, h1, by omega, by simp; omega, ?_, ho⟩ (by simp [n0, intOf]; omega)
            rw [hT]
            congr 1
            funext r
            refine Prod.ext (by simp) rfl
          by_cases g : s[i] = 13
          · simp only [rs, e4, decide_eq_true g]
            exact fin5 10 (by rw [hc, if_pos g]; rfl)
          · simp only [rs, e4, decide_eq_false g]
            exact fin5 _ (by rw [hc, if_neg g])
        have one : (Lx.eol s[i] = true → Lx.lineF (s.drop i) = 1) → J4 [.int .i64 i] w4 := by
          intro hl
          cases hE : Lx.eol s[i] with
          | false =>
            have hn13 : ¬ s[i] = 13 := by intro e; rw [e] at hE; cases hE
            refine fin4 i s[i] (Nat.le_refl _) hi3 (by rw [if_neg hn13]) ?_
            rw [hgen hE]
            congr 1
            funext r
            refine Prod.ext rfl ?_
            simp only; omega
          | true =>
            have h10 : (10 : UInt8) = if s[i] = 13 then 10 else s[i] := by
              simp only [Lx.eol, Bool.or_eq_true, decide_eq_true_eq] at hE
              rcases hE with h | h
              · rw [if_pos h]
              · rw [if_neg (by rw [h]; decide), h]
            refine fin4 i 10 (Nat.le_refl _) hi3 h10 ?_
            rw [he, heol hE, textG_eol hi3 hE, Lx.line, hl hE, Option.map_map]
            congr 1
            funext r
            refine Prod.ext rfl ?_
            simp only [Function.comp]; omega
        by_cases g : s[i] = 13
        · have g10 : ¬ s[i] = 10 := by rw [g]; decide
          by_cases h3 : ((i + 1 : Nat) : Int) < (s.length : Int)
          · have hi4 : i + 1 < s.length := by omega
            simp only [rs, e4, decide_eq_true g, hw1, s_len Tryz.underlying9, h3, decide_true, s_at hi4]
            have e5 := u8d s[i + 1] 10 10 rfl
            have hh : (s.drop (i + 1)).head? = some s[i + 1] := by rw [Lx.drop_cons hi4, List.head?_cons]
            by_cases h5 : s[i + 1] = 10
            · simp only [rs, e5, decide_eq_true h5, hw1]
              have hE : Lx.eol s[i] = true := by simp [Lx.eol, g]
              refine fin4 (i + 1) 10 (by omega) hi4 (by rw [if_pos g]) ?_
              have hL : Lx.lineF (s.drop i) = 2 := by rw [hd, Lx.lineF, if_neg g10, if_pos g, if_pos (by rw [hh, h5])]
              rw [he, heol hE, textG_eol hi3 hE, Lx.line, hL, Option.map_map]
              congr 1
              funext r
              refine Prod.ext rfl ?_
              simp only [Function.comp]; omega
            · simp only [rs, e5, decide_eq_false h5]
              refine one fun _ => ?_
              rw [hd, Lx.lineF, if_neg g10, if_pos g, if_neg (by rw [hh]; simpa using h5)]
          · simp only [rs, e4, decide_eq_true g, hw1, s_len Tryz.underlying9, h3, decide_false, g_un]
            refine one fun _ => ?_
            rw [hd, Lx.lineF, if_neg g10, if_pos g, if_neg (by rw [List.drop_eq_nil_of_le (by omega)]; simp)]
        · simp only [rs, e4, decide_eq_false g, g_un]
          refine one fun hE => ?_
          have : s[i] = 10 := by simpa [Lx.eol, g] using hE
          rw [hd, Lx.lineF, if_pos this]
      have step : Lx.eol s[i] = false → Lx.textG 0 o (s.drop i) = if s[i] = 40 then (Lx.textG 0 (o + 1) (s.drop (i + 1))).map (fun r => (s[i] :: r.1, r.2 + 1))
          else if s[i] = 41 then if o ≤ 1 then some ([], 1) else (Lx.textG 0 (o - 1) (s.drop (i + 1))).map (fun r => (s[i] :: r.1, r.2 + 1))
          else (Lx.textG 0 o (s.drop (i + 1))).map (fun r => (s[i] :: r.1, r.2 + 1)) := by
        intro hE
        rw [hd, Lx.textG, if_neg (by rw [hE]; decide), if_neg g1]
      by_cases g3 : s[i] = 41
      · have hE : Lx.eol s[i] = false := by rw [g3]; rfl
        have g40 : s[i] ≠ 40 := by rw [g3]; decide
        have hst := step hE
        rw [if_neg g40, if_pos g3] at hst
        simp only [rs, e3, decide_eq_true g3]
        rw [hn40 g40, wrap64_id (by omega) (by omega)]
        by_cases g4 : o ≤ 1
        · have g5 : (o : Int) - 1 = 0 := by omega
          rw [if_pos g4] at hst
          simp only [g5, decide_true, i_t, sl_len Tryz.underlying62 (ho.slRow 0 rfl), rs]
          rw [hst, Option.map_some, List.append_nil] at he
          by_cases hbig : (32767 : Int) < (acc.length : Int)
          · simp only [hbig, decide_true, i_t]
            exact hK _ _ ⟨by rw [textR, he]; simp only [strR]; rw [if_pos (by omega)], ho.done⟩
          · simp only [hbig, decide_false, i_f, o_strB 0 ho rfl, hw1]
            exact hK _ _ ⟨by rw [textR, he]; simp only [strR]; rw [if_neg (by omega), show a + (1 + (i - a)) = i + 1 by omega], ho.done⟩
        · have g5 : ¬ ((o : Int) - 1 = 0) := by omega
          rw [if_neg g4] at hst
          simp only [g5, decide_false, i_f]
          rw [show (o : Int) - 1 = ((o - 1 : Nat) : Int) by omega]
          refine fin3 (o - 1) (by omega) (by omega) (fun h => by rw [hE] at h; cases h) fun _ => ?_
          rw [he, hst, Option.map_map]; rfl
      · simp only [rs, e3, decide_eq_false g3]
        by_cases g2 : s[i] = 40
        · have hE : Lx.eol s[i] = false := by rw [g2]; rfl
          refine fin3 o' (by have := h40 g2; omega) (by have := h40 g2; omega) (fun h => by rw [hE] at h; cases h) fun _ => ?_
          rw [he, step hE, if_pos g2, h40 g2, Option.map_map]; rfl
        · refine fin3 o' (by have := hn40 g2; omega) (by have := hn40 g2; omega) (fun _ => hn40 g2) fun hE => ?_
          rw [he, step hE, if_neg g2, if_neg g3, hn40 g2, Option.map_map]; rfl
    by_cases g2 : s[i] = 40
    · simp only [rs, e2, decide_eq_true g2]
      rw [wrap64_id (by omega) (by omega), show (o : Int) + 1 = ((o + 1 : Nat) : Int) by omega]
      exact fin (o + 1) (fun _ => rfl) (fun h => absurd g2 h)
    · simp only [rs, e2, decide_eq_false g2]
      exact fin o (fun h => absurd h g2) (fun _ => rfl)
  · have hi3 : i = s.length := by omega
    simp only [hlt, decide_false, i_f]
    refine bad ho ?_
    rw [hi3, List.drop_length]; rfl
end Go.Proofs.YtihjejmmldpelaaGreatDoor
/- Contracts of foliantref03: hex, token, Next. -/
namespace Go.Proofs.YtihjejmmldpelaaGreatDoor
set_option linter.unusedVariables false
set_option linter.unusedSimpArgs false
set_option linter.defProp false
open Eng Go.RowKit

/-- The digits up to the end of a hexadecimal string. -/
def digF : List UInt8 → (List UInt8 × Nat) ⊕ Int
  | [] => .inr 4
  | c :: t =>
    if c = 62 then .inl ([], 1)
    else if 0 ≤ Lx.digit c then match digF t with | .inl r => .inl (c :: r.1, r.2 + 1) | .inr e => .inr e
    else if Oc.white c then match digF t with | .inl r => .inl (r.1, r.2 + 1) | .inr e => .inr e
    else .inr 3
def hexOf : List UInt8 → List UInt8
  | [] => []
  | [a] => [Lx.byte (Lx.digit a) 0]
  | a :: b :: t => Lx.byte (Lx.digit a) (Lx.digit b) :: hexOf t
def padH (l : List UInt8) : List UInt8 := if l.length % 2 = 0 then l else l ++ [48]
theorem white_digit (c : UInt8) (h : Oc.white c = true) : Lx.digit c < 0 := by
  have : ∀ n : Fin 256, Oc.white (UInt8.ofNat n.val) = true → Lx.digit (UInt8.ofNat n.val) < 0 := by decide +kernel
  have h2 := this ⟨c.toNat, c.toNat_lt⟩
  simp only [UInt8.ofNat_toNat] at h2
  exact h2 h
theorem hexF_digF : ∀ l : List UInt8, (Lx.hexF (-1) l = match digF l with | .inl r => .inl (hexOf r.1, r.2) | .inr e => .inr e) ∧
    ∀ c : UInt8, 0 ≤ Lx.digit c → Lx.hexF (Lx.digit c) l = match digF l with | .inl r => .inl (hexOf (c :: r.1), r.2) | .inr e => .inr e
  | [] => ⟨rfl, fun _ _ => rfl⟩
  | x :: t => by
    have ih := hexF_digF t
    by_cases g1 : x = 62
    · refine ⟨?_, fun c hc => ?_⟩
      · rw [Lx.hexF, if_pos g1, digF, if_pos g1]; rfl
      · rw [Lx.hexF, if_pos g1, digF, if_pos g1, if_pos hc]; rfl
    by_cases g2 : 0 ≤ Lx.digit x
    · have hw : ¬ Oc.white x = true := fun h => by have := white_digit x h; omega
      refine ⟨?_, fun c hc => ?_⟩
      · rw [Lx.hexF, if_neg g1, if_neg hw, if_neg (by omega), if_pos (by omega), digF, if_neg g1, if_pos g2, ih.2 x g2]
        cases digF t <;> rfl
      · rw [Lx.hexF, if_neg g1, if_neg hw, if_neg (by omega), if_neg (by omega), digF, if_neg g1, if_pos g2, ih.1]
        cases digF t <;> rfl
    by_cases g3 : Oc.white x = true
    · refine ⟨?_, fun c hc => ?_⟩
      · rw [Lx.hexF, if_neg g1, if_pos g3, digF, if_neg g1, if_neg g2, if_pos g3, ih.1]
        cases digF t <;> rfl
      · rw [Lx.hexF, if_neg g1, if_pos g3, digF, if_neg g1, if_neg g2, if_pos g3, ih.2 c hc]
        cases digF t <;> rfl
    · refine ⟨?_, fun c hc => ?_⟩
      · rw [Lx.hexF, if_neg g1, if_neg g3, if_pos (by omega), digF, if_neg g1, if_neg g2, if_neg g3]
      · rw [Lx.hexF, if_neg g1, if_neg g3, if_pos (by omega), digF, if_neg g1, if_neg g2, if_neg g3]
theorem unhex_pad : ∀ (n : Nat) (l : List UInt8), l.length ≤ n → (∀ c ∈ l, 0 ≤ Lx.digit c) → Lx.unhex (padH l) = some (hexOf l)
  | _, [], _, _ => rfl
  | _, [a], _, h => by
    have h0 := h a (by simp)
    have e : padH [a] = [a, 48] := rfl
    rw [e, Lx.unhex, if_neg (by rw [show Lx.digit 48 = 0 from rfl]; omega), Lx.unhex]
    rfl
  | 0, _ :: _ :: _, h, _ => by simp at h
  | n + 1, a :: b :: t, hl, h => by
    simp only [List.length_cons] at hl
    have ih := unhex_pad n t (by omega) (fun c hc => h c (by simp [hc]))
    have ha := h a (by simp)
    have hb := h b (by simp)
    have e : padH (a :: b :: t) = a :: b :: padH t := by
      unfold padH
      simp only [List.length_cons, Nat.add_mod_right, show t.length + 1 + 1 = t.length + 2 from rfl]
      split <;> simp
    rw [e, Lx.unhex, if_neg (by omega), ih, hexOf]; rfl
def hexR (s : List UInt8) (at_ : Nat) : (List UInt8 × Nat) ⊕ Int := Lx.hexF (-1) (s.drop at_)
 attribute [local congr] g_congr in
theorem rhex3_ret (s : List UInt8) (a : Nat) (w : World) (hs : s.length ≤ 1099511627776) (ha : a ≤ s.length) : Ret Tryz.prog 150 #[.string ⟨s.toArray⟩, .int .i64 a] w (fun v w' => v = strR s a (hexR s a) ∧ Below w.heap.size w w') := by
  refine ret_of fun K hK => S_foliantref03_hex_ok ?_
  unfold S_foliantref03_hex
  let ext (acc : List UInt8) (n : Nat) (r : (List UInt8 × Nat) ⊕ Int) : (List UInt8 × Nat) ⊕ Int := match r with | .inl r => .inl (acc ++ r.1, r.2 + n) | .inr e => .inr e
  refine loop (fun vs w' => ∃ (i : Nat) (v : Value) (acc : List UInt8), vs = [.int .i64 i, v] ∧ a ≤ i ∧ i ≤ s.length ∧ acc.length ≤ i ∧ (∀ c ∈ acc, 0 ≤ Lx.digit c) ∧ digF (s.drop a) = ext acc (i - a) (digF (s.drop i)) ∧ Own w w' [BRow v acc])
    (fun vs _ => s.length - n0 vs) ⟨a, _, [], rfl, by omega, ha, by simp, by simp, ?_, (Own.start w).nilRow _ 1⟩ ?_
  · cases digF (s.drop a) <;> simp [ext]
  rintro vs w4 ⟨i, v, acc, rfl, hi1, hi2, hacc, hall, he, ho⟩ _
  simp only [S_foliantref03_hex_0, gd, s_len Tryz.underlying9]
  have hHF := (hexF_digF (s.drop a)).1
  by_cases hlt : (i : Int) < (s.length : Int)
  · have hi3 : i < s.length := by omega
    have hd := Lx.drop_cons hi3
    rw [hd, digF] at he
    have e1 : decide ((s[i].toNat : Int) ≠ 62) = decide (s[i] ≠ 62) := by
      have := u8d s[i] 62 62 rfl
      rw [decide_not, decide_not, this]
    by_cases g1 : s[i] = 62
    · have hlt2 : ¬ ((s.length : Int) ≤ (i : Int)) := by omega
      have g1' : ¬ (s[i] ≠ 62) := fun h => h g1
      simp only [rs, hlt, decide_true, s_at hi3, e1, decide_eq_false g1', s_len Tryz.underlying9, hlt2, decide_false, sl_len Tryz.underlying62 (ho.slRow 0 rfl)]
      rw [if_pos g1] at he
      have he : digF (s.drop a) = .inl (acc, 1 + (i - a)) := by rw [he]; simp [ext]
      rw [he] at hHF
      refine join fun J3 hJ3 => ?_
      have fin : ∀ (v' : Value) (w5 : World), Own w w5 [BRow v' (padH acc)] → J3 [v'] w5 := by
        intro v' w5 ho
        refine hJ3 _ _ fun _ => ?_
        simp only [S_foliantref03_hex_2, gd, o_strB 0 ho rfl]
        have hpl : (padH acc).length ≤ acc.length + 1 := by unfold padH; split <;> simp
        refine c_below ho (runhex_ret (padH acc) w5 (by omega)) ?_
        rintro _ w6 rfl ho
        rw [unhexE_some (unhex_pad _ acc (Nat.le_refl _) hall)]
        simp only [ex, rs, s_len Tryz.underlying9]
        by_cases hbig : (32767 : Int) < ((hexOf acc).length : Int)
        · simp only [hbig, decide_true, i_t]
          exact hK _ _ ⟨by rw [hexR, hHF]; simp only [strR]; rw [if_pos (by omega)], ho.done⟩
        · simp only [hbig, decide_false, i_f, rs]
          rw [wrap64_id (by omega) (by omega)]
          exact hK _ _ ⟨by rw [hexR, hHF]; simp only [strR]; rw [if_neg (by omega), show ((a + (1 + (i - a)) : Nat) : Int) = (i : Int) + 1 by omega], ho.done⟩
      rw [b_rem (by omega)]
      have hr : ((acc.length : Int).tmod 2) = ((acc.length % 2 : Nat) : Int) := by rw [Int.tmod_eq_emod_of_nonneg (by omega)]; omega
      rw [hr]
      by_cases hodd : acc.length % 2 = 0
      · rw [hodd]
        simp only [rs, ne_eq, Int.natCast_zero, not_true, decide_false]
        exact fin _ _ (by rw [padH, if_pos hodd]; exact ho)
      · have hne : ((acc.length % 2 : Nat) : Int) ≠ 0 := by omega
        simp only [rs, decide_eq_true hne]
        refine o_app1 48 rfl ho (by omega) fun v' w5 ho => ?_
        exact fin _ _ (by rw [padH, if_neg hodd]; exact ho)
    · simp only [rs, hlt, decide_true, s_at hi3, e1, decide_eq_true g1]
      rw [if_neg g1] at he
      refine join fun J2 hJ2 => ?_
      have go : ∀ (v' : Value) (acc' : List UInt8) (w5 : World), acc'.length ≤ i + 1 → (∀ c ∈ acc', 0 ≤ Lx.digit c) → digF (s.drop a) = ext acc' (i + 1 - a) (digF (s.drop (i + 1))) → Own w w5 [BRow v' acc'] → J2 [v'] w5 := by
        intro v' acc' w5 h1 h2 h3 ho
        refine hJ2 _ _ fun _ => ?_
        simp only [S_foliantref03_hex_1, gd, rs]
        rw [wrap64_id (by omega) (by omega)]
        exact nextX ⟨i + 1, v', acc', rfl, by omega, by omega, h1, h2, h3, ho⟩ (by simp [n0, intOf]; omega)
      refine c_eq (rdigit_ret s[i] w4) ?_
      by_cases g2 : 0 ≤ Lx.digit s[i]
      · simp only [rs, g2, decide_true, s_at hi3]
        rw [if_pos g2] at he
        refine o_app1 s[i] rfl ho (by omega) fun v' w5 ho => ?_
        refine go v' _ _ (by simp; omega) ?_ ?_ ho
        · intro c hc
          rcases List.mem_append.1 hc with h | h
          · exact hall c h
          · rw [List.mem_singleton] at h; rw [h]; exact g2
        · rw [he]
          cases digF (s.drop (i + 1)) with
          | inl r => simp only [ext, List.append_assoc, List.singleton_append]; rw [show r.2 + 1 + (i - a) = r.2 + (i + 1 - a) by omega]
          | inr e => rfl
      · simp only [rs, g2, decide_false, s_at hi3]
        rw [if_neg g2] at he
        refine c_eq (rwhite_ret s[i] w4) ?_
        cases hw : Oc.white s[i] with
        | true =>
          simp only [rs, Bool.not_true]
          rw [if_pos hw] at he
          refine go v acc _ (by omega) hall ?_ ho
          rw [he]
          cases digF (s.drop (i + 1)) with
          | inl r => simp only [ext]; rw [show r.2 + 1 + (i - a) = r.2 + (i + 1 - a) by omega]
          | inr e => rfl
        | false =>
          simp only [rs, Bool.not_false]
          rw [if_neg (by rw [hw]; decide)] at he
          rw [he] at hHF
          exact hK _ _ ⟨by rw [hexR, hHF]; rfl, ho.done⟩
  · have hi3 : i = s.length := by omega
    have hge : ((s.length : Int) ≤ (i : Int)) := by omega
    rw [hi3, List.drop_length] at he
    rw [he] at hHF
    simp only [rs, hlt, decide_false, g_un, s_len Tryz.underlying9, hge, decide_true]
    exact hK _ _ ⟨by rw [hexR, hHF]; rfl, ho.done⟩
theorem strR_inl {s : List UInt8} {a : Nat} {r : List UInt8 × Nat} : strR s a (.inl r) = .tuple #[.string ⟨(if 32767 < r.1.length then ([] : List UInt8) else r.1).toArray⟩, .int .i64 (if 32767 < r.1.length then 0 else ((a + r.2 : Nat) : Int)), .int .i64 (if 32767 < r.1.length then 5 else 0)] := by
  unfold strR
  simp only
  by_cases h : 32767 < r.1.length
  · simp only [if_pos h]
  · simp only [if_neg h]
theorem told_str (a : Nat) (r : (List UInt8 × Nat) ⊕ Int) : (match r with | .inr e => Lx.refused e | .inl r => Lx.told 3 a (a + 1 + r.2 : Nat) r.1 32767) =
    match r with
    | .inr e => Lx.refused e
    | .inl r => if 32767 < r.1.length then Lx.refused 5 else (⟨3, a, (a + 1 + r.2 : Nat), 0, r.1⟩, 0) := by
  cases r with
  | inr e => rfl
  | inl r =>
    simp only [Lx.told]
    by_cases h : 32767 < r.1.length
    · rw [if_pos h, if_pos (by omega)]
    · rw [if_neg h, if_neg (by omega)]
theorem text_textR (s : List UInt8) (a : Nat) : Lx.text s a = match textR s (a + 1) with | .inr e => Lx.refused e | .inl r => Lx.told 3 a (a + 1 + r.2 : Nat) r.1 32767 := by
  unfold Lx.text textR
  cases Lx.textG 0 1 (s.drop (a + 1)) <;> rfl
theorem textR_pos (s : List UInt8) (a : Nat) (e : Int) (h : textR s a = .inr e) : e ≠ 0 := by
  unfold textR at h
  split at h
  · cases h; decide
  · cases h
theorem hexF_pos : ∀ (l : List UInt8) (h e : Int), Lx.hexF h l = .inr e → e ≠ 0
  | [], _, e, h => by rw [Lx.hexF] at h; cases h; decide
  | c :: t, h, e, he => by
    rw [Lx.hexF] at he
    split at he
    · cases he
    · split at he
      · cases hh : Lx.hexF h t with
        | inl r => rw [hh] at he; cases he
        | inr e' => rw [hh] at he; cases he; exact hexF_pos t h e hh
      · split at he
        · cases he; decide
        · split at he
          · cases hh : Lx.hexF (Lx.digit c) t with
            | inl r => rw [hh] at he; cases he
            | inr e' => rw [hh] at he; cases he; exact hexF_pos t _ e hh
          · cases hh : Lx.hexF (-1) t with
            | inl r => rw [hh] at he; cases he
            | inr e' => rw [hh] at he; cases he; exact hexF_pos t _ e hh
theorem rtoken_ret (s : List UInt8) (a : Nat) (w : World) (hs : s.length ≤ 1099511627776) (ha : a < s.length) : Ret Tryz.prog 117 #[.string ⟨s.toArray⟩, .int .i64 a] w (fun v w' => v = tokR (Lx.token s a) ∧ Below w.heap.size w w') := by
  refine ret_of fun K hK => S_foliantref03_token_ok ?_
  unfold S_foliantref03_token
  refine o_tok (Own.start w) fun b w1 ho => ?_
  have hd := Lx.drop_cons ha
  have hT : Lx.token s a = if s[a] = 91 ∨ s[a] = 93 ∨ s[a] = 123 ∨ s[a] = 125 then Lx.mark s a 1
    else if s[a] = 60 then (if (s.drop (a + 1)).head? = some s[a] then Lx.mark s a 2 else Lx.hex s a)
    else if s[a] = 62 then (if (s.drop (a + 1)).head? = some s[a] then Lx.mark s a 2 else Lx.refused 3)
    else if s[a] = 47 then Lx.name s a
    else if s[a] = 40 then Lx.text s a
    else if s[a] = 41 then Lx.refused 3
    else Lx.word s a := by rw [Lx.token, hd]
  have hw1 : IntKind.wrap .i64 ((a : Int) + 1) = ((a + 1 : Nat) : Int) := by rw [wrap64_id (by omega) (by omega)]; omega
  have hw2 : IntKind.wrap .i64 ((a : Int) + 2) = ((a + 2 : Nat) : Int) := by rw [wrap64_id (by omega) (by omega)]; omega
  -- the byte behind is the same
  have two : (s.drop (a + 1)).head? = some s[a] → a + 2 ≤ s.length := by
    intro h
    cases hdd : s.drop (a + 1) with
    | nil => rw [hdd] at h; cases h
    | cons x t =>
      have := congrArg List.length hdd
      simp at this; omega
  have hdbl : ∀ {E : Value → World → Prop}, E (.bool (decide ((s.drop (a + 1)).head? = some s[a]))) w1 → DoX Tryz.prog (mB .len #[9] 3 #[false] #[.string ⟨s.toArray⟩]) w1 (pk K) fun t23 w =>
      DoX Tryz.prog (mBin .lss 3 (.int .i64 ((a + 1 : Nat) : Int)) t23) w (pk K) fun t24 w =>
      GDo t24 true (fun E => E (.string ⟨s.toArray⟩) w) w fun t26 w =>
      GDo t24 true (fun E => E (.int .i64 a) w) w fun t27 w =>
      GDo t24 true (fun E => DoX Tryz.prog (mBin .add 3 t27 (.int .i64 1)) w (pk K) E) w fun t28 w =>
      GDo t24 true (fun E => DoX Tryz.prog (mIx 9 t26 t28) w (pk K) E) w fun t29 w =>
      GDo t24 true (fun E => E (.int .u8 s[a].toNat) w) w fun t30 w =>
      GDo t24 true (fun E => DoX Tryz.prog (mEq .eql 5 (.tmp 29) (.tmp 30) t29 t30) w (pk K) E) w fun t31 w =>
      DoX Tryz.prog (mPick t24 t31 (.bool false)) w (pk K) E := by
    intro E hE
    by_cases h : ((a + 1 : Nat) : Int) < (s.length : Int)
    · have h2 : a + 1 < s.length := by omega
      simp only [s_len Tryz.underlying9, rs, h, decide_true, hw1, s_at h2]
      rw [show decide ((s[a + 1].toNat : Int) = (s[a].toNat : Int)) = decide ((s.drop (a + 1)).head? = some s[a]) by
        rw [u8d s[a + 1] _ s[a] rfl, Lx.drop_cons h2, List.head?_cons]
        by_cases g : s[a + 1] = s[a]
        · rw [decide_eq_true g, decide_eq_true (by rw [g])]
        · rw [decide_eq_false g, decide_eq_false (by simpa using g)]]
      exact hE
    · rw [decide_eq_false (by rw [List.drop_eq_nil_of_le (by omega)]; simp)] at hE
      simp only [s_len Tryz.underlying9, rs, h, decide_false, g_un]
      exact hE
  simp only [s_at ha]
  rw [b_add, hw1]
  refine hdbl ?_
  generalize hD : decide ((s.drop (a + 1)).head? = some s[a]) = D at *
  have hDt : D = true → (s.drop (a + 1)).head? = some s[a] := fun h => by rw [h] at hD; exact of_decide_eq_true hD
  have hDf : D = false → ¬ (s.drop (a + 1)).head? = some s[a] := fun h => by rw [h] at hD; exact of_decide_eq_false hD
  have q1 := u8d s[a] 60 60 rfl
  have q2 := u8d s[a] 62 62 rfl
  have q3 := u8d s[a] 47 47 rfl
  have q4 := u8d s[a] 40 40 rfl
  have q5 := u8d s[a] 41 41 rfl
  have p1 := u8d s[a] 91 91 rfl
  have p2 := u8d s[a] 93 93 rfl
  have p3 := u8d s[a] 123 123 rfl
  have p4 := u8d s[a] 125 125 rfl
  have mk : ∀ n : Nat, a + n ≤ s.length → Lx.token s a = Lx.mark s a n → DoX Tryz.prog (mSlice 9 (.string ⟨s.toArray⟩) (some (.int .i64 a)) (some (.int .i64 ((a + n : Nat) : Int))) none) w1 (pk K) fun t49 w =>
      DoX Tryz.prog (mBuild 41 #[(0, (.int .i64 6)), (1, .int .i64 a), (2, .int .i64 ((a + n : Nat) : Int)), (4, t49)]) w (pk K) fun t50 w =>
      DoX Tryz.prog (mStore 41 (.pointer (some ⟨b, 0, none⟩)) t50) w (pk K) fun _ w =>
      RetX Tryz.prog [.cell (.pointer (some ⟨b, 0, none⟩)) 41, .val (.int .i64 0)] w K := by
    intro n hn hm
    rw [s_cut (i := a) (j := a + n) rfl rfl (by omega) hn, m_tok4]
    exact tok_put 0 ho rfl fun w' ho => hK _ _ ⟨by rw [hm]; rfl, ho.done⟩
  have no : ∀ (e : Int), Lx.token s a = Lx.refused e → DoX Tryz.prog (mBuild 41 #[]) w1 (pk K) fun t50 w =>
      DoX Tryz.prog (mStore 41 (.pointer (some ⟨b, 0, none⟩)) t50) w (pk K) fun _ w =>
      RetX Tryz.prog [.cell (.pointer (some ⟨b, 0, none⟩)) 41, .val (.int .i64 e)] w K := by
    intro e hm
    rw [m_tok0]
    exact tok_put 0 ho rfl fun w' ho => hK _ _ ⟨by rw [hm]; rfl, ho.done⟩
  -- strings
  have str : ∀ (r : (List UInt8 × Nat) ⊕ Int) (w2 : World), Own w w2 [tokE b Lx.none_] → (∀ e, r = .inr e → e ≠ 0) → Lx.token s a = (match r with | .inr e => Lx.refused e | .inl r => Lx.told 3 a (a + 1 + r.2 : Nat) r.1 32767) → ∀ x y z, strR s (a + 1) r = .tuple #[x, y, z] → S_foliantref03_token_0 (.int .i64 a) (.pointer (some ⟨b, 0, none⟩)) x y z w2 K := by
    intro r w2 ho hpos hm x y z hxyz
    rw [told_str] at hm
    unfold S_foliantref03_token_0
    cases r with
    | inr e =>
      simp only [strR] at hxyz
      injection hxyz with hxyz
      injection hxyz with hxyz
      simp only [List.cons.injEq, and_true] at hxyz
      obtain ⟨rfl, rfl, rfl⟩ := hxyz
      have he := hpos e rfl
      simp only [rs, decide_eq_true he, m_tok0]
      exact tok_put 0 ho rfl fun w' ho => hK _ _ ⟨by rw [hm]; rfl, ho.done⟩
    | inl r =>
      rw [strR_inl] at hxyz
      injection hxyz with hxyz
      injection hxyz with hxyz
      simp only [List.cons.injEq, and_true] at hxyz
      obtain ⟨rfl, rfl, rfl⟩ := hxyz
      by_cases hbig : 32767 < r.1.length
      · simp only [if_pos hbig, rs, ne_eq, show ¬ ((5 : Int) = 0) by decide, not_false_eq_true, decide_true, m_tok0]
        exact tok_put 0 ho rfl fun w' ho => hK _ _ ⟨by rw [hm]; simp only; rw [if_pos hbig]; rfl, ho.done⟩
      · simp only [if_neg hbig, rs, ne_eq, not_true, decide_false, m_tok4]
        exact tok_put 0 ho rfl fun w' ho => hK _ _ ⟨by rw [hm]; simp only; rw [if_neg hbig], ho.done⟩
  have trip : ∀ r, ∃ x y z, strR s (a + 1) r = .tuple #[x, y, z] := by
    intro r
    cases r with
    | inr e => exact ⟨_, _, _, rfl⟩
    | inl r => exact ⟨_, _, _, strR_inl⟩
  by_cases g1 : s[a] = 60
  · have hT : Lx.token s a = if (s.drop (a + 1)).head? = some s[a] then Lx.mark s a 2 else Lx.hex s a := by
      rw [hT, if_neg (by rw [g1]; decide), if_pos g1]
    simp only [rs, q1, decide_eq_true g1, g_un]
    cases hDD : D with
    | true =>
      have h2 := hDt hDD
      simp only [rs, hw2]
      exact mk 2 (two h2) (by rw [hT, if_pos h2])
    | false =>
      have h2 := hDf hDD
      rw [if_neg h2] at hT
      have n1 : ¬ s[a] = 91 := by rw [g1]; decide
      have n2 : ¬ s[a] = 93 := by rw [g1]; decide
      have n3 : ¬ s[a] = 123 := by rw [g1]; decide
      have n4 : ¬ s[a] = 125 := by rw [g1]; decide
      have n5 : ¬ s[a] = 62 := by rw [g1]; decide
      have n6 : ¬ s[a] = 41 := by rw [g1]; decide
      have n7 : ¬ s[a] = 47 := by rw [g1]; decide
      have n8 : ¬ s[a] = 40 := by rw [g1]; decide
      simp only [rs, p1, p2, p3, p4, q2, q5, q3, q4, q1, decide_eq_false n1, decide_eq_false n2, decide_eq_false n3, decide_eq_false n4, decide_eq_false n5, decide_eq_false n6, decide_eq_false n7, decide_eq_false n8, decide_eq_true g1, g_un, hw1]
      refine c_below ho (rlit_ret s (a + 1) w1 hs (by omega)) ?_
      rintro _ w2 rfl ho
      obtain ⟨x, y, z, hxyz⟩ := trip (textR s (a + 1))
      rw [hxyz]
      simp only [ex]
      refine join fun J hJ => ?_
      refine c_below ho (rhex3_ret s (a + 1) w2 hs (by omega)) ?_
      rintro _ w3 rfl ho
      obtain ⟨x', y', z', hxyz'⟩ := trip (hexR s (a + 1))
      rw [hxyz']
      simp only [ex]
      refine hJ _ _ fun _ => ?_
      simp only [gd]
      exact str (hexR s (a + 1)) w3 ho (fun e he => hexF_pos _ _ _ he) (by rw [hT, Lx.hex, hexR]; cases Lx.hexF (-1) (s.drop (a + 1)) <;> rfl) _ _ _ hxyz'
  by_cases g2 : s[a] = 62
  · have hT : Lx.token s a = if (s.drop (a + 1)).head? = some s[a] then Lx.mark s a 2 else Lx.refused 3 := by
      rw [hT, if_neg (by rw [g2]; decide), if_neg g1, if_pos g2]
    simp only [rs, q1, decide_eq_false g1, q2, decide_eq_true g2, g_un]
    cases hDD : D with
    | true =>
      have h2 := hDt hDD
      simp only [rs, hw2]
      exact mk 2 (two h2) (by rw [hT, if_pos h2])
    | false =>
      have h2 := hDf hDD
      rw [if_neg h2] at hT
      have n1 : ¬ s[a] = 91 := by rw [g2]; decide
      have n2 : ¬ s[a] = 93 := by rw [g2]; decide
      have n3 : ¬ s[a] = 123 := by rw [g2]; decide
      have n4 : ¬ s[a] = 125 := by rw [g2]; decide
      simp only [rs, p1, p2, p3, p4, q2, decide_eq_false n1, decide_eq_false n2, decide_eq_false n3, decide_eq_false n4, decide_eq_true g2, g_un]
      exact no 3 hT
  simp only [rs, q1, decide_eq_false g1, q2, decide_eq_false g2, g_un]
  by_cases b1 : s[a] = 91
  · simp only [rs, p1, decide_eq_true b1, g_un, hw1]
    exact mk 1 (by omega) (by rw [hT, if_pos (.inl b1)])
  by_cases b2 : s[a] = 93
  · simp only [rs, p1, decide_eq_false b1, p2, decide_eq_true b2, g_un, hw1]
    exact mk 1 (by omega) (by rw [hT, if_pos (.inr (.inl b2))])
  by_cases b3 : s[a] = 123
  · simp only [rs, p1, decide_eq_false b1, p2, decide_eq_false b2, p3, decide_eq_true b3, g_un, hw1]
    exact mk 1 (by omega) (by rw [hT, if_pos (.inr (.inr (.inl b3)))])
  by_cases b4 : s[a] = 125
  · simp only [rs, p1, decide_eq_false b1, p2, decide_eq_false b2, p3, decide_eq_false b3, p4, decide_eq_true b4, g_un, hw1]
    exact mk 1 (by omega) (by rw [hT, if_pos (.inr (.inr (.inr b4)))])
  rw [if_neg (by rintro (h | h | h | h) <;> contradiction), if_neg g1, if_neg g2] at hT
  simp only [rs, p1, p2, p3, p4, decide_eq_false b1, decide_eq_false b2, decide_eq_false b3, decide_eq_false b4, g_un, q2, decide_eq_false g2]
  by_cases g5 : s[a] = 41
  · simp only [rs, q5, decide_eq_true g5, g_un]
    exact no 3 (by rw [hT, if_neg (by rw [g5]; decide), if_neg (by rw [g5]; decide), if_pos g5])
  simp only [rs, q5, decide_eq_false g5]
  by_cases g3 : s[a] = 47
  · rw [if_pos g3] at hT
    simp only [rs, q3, decide_eq_true g3, hw1]
    refine c_eq (rrun_ret s (a + 1) w1 hs (by omega)) ?_
    have hto := Lx.run_le s (show a + 1 ≤ s.length by omega)
    have hto2 : a + 1 ≤ Lx.run s (a + 1) := by unfold Lx.run; omega
    rw [s_cut rfl rfl hto2 hto]
    have hcl : (Lx.cut s (a + 1) (Lx.run s (a + 1))).length ≤ s.length := by rw [cut_length hto]; omega
    refine c_below ho (rnamet_ret _ w1 (by omega)) ?_
    rintro _ w2 rfl ho
    have hN : Lx.token s a = if (nameR (Lx.cut s (a + 1) (Lx.run s (a + 1)))).2 ≠ 0 then Lx.refused (nameR (Lx.cut s (a + 1) (Lx.run s (a + 1)))).2 else (⟨4, a, Lx.run s (a + 1), 0, (nameR (Lx.cut s (a + 1) (Lx.run s (a + 1)))).1⟩, 0) := by
      rw [hT, Lx.name, nameR]
      cases Lx.nameF (Lx.cut s (a + 1) (Lx.run s (a + 1))) with
      | none => rfl
      | some x =>
        simp only [Lx.told]
        by_cases h : 127 < x.length
        · rw [if_pos (by omega), if_pos h]; simp [Lx.refused]
        · rw [if_neg (by omega), if_neg h]; simp
    simp only [ex, rs]
    by_cases he : (nameR (Lx.cut s (a + 1) (Lx.run s (a + 1)))).2 ≠ 0
    · rw [if_pos he] at hN
      simp only [decide_eq_true he, i_t, m_tok0]
      exact tok_put 0 ho rfl fun w' ho => hK _ _ ⟨by rw [hN]; rfl, ho.done⟩
    · rw [if_neg he] at hN
      simp only [decide_eq_false he, i_f, m_tok4]
      exact tok_put 0 ho rfl fun w' ho => hK _ _ ⟨by rw [hN], ho.done⟩
  simp only [rs, q3, decide_eq_false g3]
  rw [if_neg g3] at hT
  by_cases g4 : s[a] = 40
  · rw [if_pos g4] at hT
    simp only [rs, q4, decide_eq_true g4, g_un, hw1]
    refine c_below ho (rlit_ret s (a + 1) w1 hs (by omega)) ?_
    rintro _ w2 rfl ho
    obtain ⟨x, y, z, hxyz⟩ := trip (textR s (a + 1))
    rw [hxyz]
    simp only [ex]
    refine join fun J hJ => ?_
    refine hJ _ _ fun _ => ?_
    simp only [gd]
    exact str (textR s (a + 1)) w2 ho (fun e he => textR_pos _ _ _ he) (by rw [hT, text_textR]) _ _ _ hxyz
  rw [if_neg g4, if_neg g5] at hT
  simp only [rs, q4, decide_eq_false g4, q1, decide_eq_false g1]
  refine c_eq (rrun_ret s a w1 hs (by omega)) ?_
  have hto := Lx.run_le s (show a ≤ s.length by omega)
  have hto2 : a ≤ Lx.run s a := by unfold Lx.run; omega
  rw [s_cut rfl rfl hto2 hto]
  have hcl : (Lx.cut s a (Lx.run s a)).length ≤ s.length := by rw [cut_length hto]; omega
  refine c_below ho (rword_ret _ w1 (by omega)) ?_
  rintro _ w2 rfl ho
  have hW : Lx.token s a = _ := hT.trans (wordR_wordT (Lx.cut s a (Lx.run s a)) a (Lx.run s a))
  simp only [tokR, ex]
  refine o_tok ho fun b2 w3 ho => ?_
  refine o_put 0 ho rfl (new := tokC (wordR (Lx.cut s a (Lx.run s a))).1) szTok (tokC_one _) rfl fun w4 ho => ?_
  have ho : Own w w4 [tokE b2 (wordR (Lx.cut s a (Lx.run s a))).1, tokE b Lx.none_] := ho
  simp only [rs]
  by_cases he : (wordR (Lx.cut s a (Lx.run s a))).2 ≠ 0
  · rw [if_pos he] at hW
    simp only [decide_eq_true he, i_t, m_tok0]
    exact tok_put 1 ho rfl fun w' ho => hK _ _ ⟨by rw [hW]; rfl, ho.done⟩
  · rw [if_neg he] at hW
    simp only [decide_eq_false he, i_f]
    rw [f_addr (show fOff Tryz.prog 41 1 = some 1 by kernel_rfl)]
    refine o_store 0 ho rfl (by kernel_rfl) rfl (by simp [tokC]) fun w5 ho => ?_
    rw [f_addr (show fOff Tryz.prog 41 2 = some 2 by kernel_rfl)]
    refine o_store 0 ho rfl (by kernel_rfl) rfl (by simp [tokC]) fun w6 ho => ?_
    have ho : Own w w6 [tokE b2 { (wordR (Lx.cut s a (Lx.run s a))).1 with a := a, t := Lx.run s a }, tokE b Lx.none_] := ho
    rw [l_at (ho.agg 0 rfl aggTok)]
    exact tok_put 1 ho rfl fun w' ho => hK _ _ ⟨by rw [hW], ho.done⟩
theorem rnext_ret (s : List UInt8) (i : Int) (w : World) (hs : s.length ≤ 1099511627776) : Ret Tryz.prog 76 #[.string ⟨s.toArray⟩, .int .i64 i] w (fun v w' => v = tokR (Lx.next s i) ∧ Below w.heap.size w w') := by
  refine ret_of fun K hK => S_foliantref03_Next_ok ?_
  unfold S_foliantref03_Next
  refine o_tok (Own.start w) fun b w1 ho => ?_
  have out : (i < 0 ∨ (s.length : Int) < i) → DoX Tryz.prog (mBuild 41 #[]) w1 (pk K) fun t50 w =>
      DoX Tryz.prog (mStore 41 (.pointer (some ⟨b, 0, none⟩)) t50) w (pk K) fun _ w =>
      RetX Tryz.prog [.cell (.pointer (some ⟨b, 0, none⟩)) 41, .val (.int .i64 1)] w K := by
    intro h
    rw [m_tok0]
    exact tok_put 0 ho rfl fun w' ho => hK _ _ ⟨by rw [Lx.next, if_pos h]; rfl, ho.done⟩
  by_cases h1 : i < 0
  · simp only [rs, h1, decide_true, g_un]
    exact out (.inl h1)
  simp only [rs, h1, decide_false, s_len Tryz.underlying9]
  by_cases h2 : (s.length : Int) < i
  · simp only [rs, h2, decide_true]
    exact out (.inr h2)
  simp only [rs, h2, decide_false]
  have hsk : Lx.skipI s i = ((Lx.skip s i.toNat : Nat) : Int) := by rw [Lx.skipI, if_neg (by omega)]
  have hN : Lx.next s i = Lx.token s (Lx.skip s i.toNat) := by rw [Lx.next, if_neg (by omega)]
  have hle := Lx.skip_le s (k := i.toNat) (by omega)
  refine c_eq (rskip_ret s i w1 hs) ?_
  rw [hsk]
  generalize Lx.skip s i.toNat = a at *
  simp only [s_len Tryz.underlying9, rs]
  by_cases hend : (s.length : Int) ≤ (a : Int)
  · have : a = s.length := by omega
    simp only [hend, decide_true, i_t, m_tok012]
    refine tok_put 0 ho rfl fun w' ho => hK _ _ ⟨?_, ho.done⟩
    rw [hN, Lx.token, this, List.drop_length]
  · simp only [hend, decide_false, i_f]
    exact tok_tail 0 ho rfl (rtoken_ret s a w1 hs (by omega)) fun w' hb => hK _ _ ⟨by rw [hN], hb⟩
end Go.Proofs.YtihjejmmldpelaaGreatDoor
/- Plain mathematics of layer 3: where tokens end; lists of tokens. -/
namespace Go.Proofs.YtihjejmmldpelaaGreatDoor
set_option linter.unusedVariables false
set_option linter.unusedSimpArgs false
set_option linter.defProp false
open Go
namespace Lx
open Oc
theorem hexF_le : ∀ (l : List UInt8) (h : Int) (r : List UInt8 × Nat), hexF h l = .inl r → 1 ≤ r.2 ∧ r.2 ≤ l.length
  | [], _, r, h => by rw [hexF] at h; cases h
  | c :: t, h, r, he => by
    rw [hexF] at he
    have step : ∀ h', (∀ r, hexF h' t = .inl r → 1 ≤ r.2 ∧ r.2 ≤ t.length) := fun h' r hr => hexF_le t h' r hr
    split at he
    · cases he; simp
    · split at he
      · cases hh : hexF h t with
        | inr e => rw [hh] at he; cases he
        | inl q => rw [hh] at he; cases he; have := step _ q hh; simp; omega
      · split at he
        · cases he
        · split at he
          · cases hh : hexF (digit c) t with
            | inr e => rw [hh] at he; cases he
            | inl q => rw [hh] at he; cases he; have := step _ q hh; simp; omega
          · cases hh : hexF (-1) t with
            | inr e => rw [hh] at he; cases he
            | inl q => rw [hh] at he; cases he; have := step _ q hh; simp; omega
theorem textG_le : ∀ (l : List UInt8) (k o : Nat) (r : List UInt8 × Nat), textG k o l = some r → 1 ≤ r.2 ∧ r.2 ≤ l.length
  | [], k, o, r, h => by
    cases k <;> (rw [textG] at h; cases h)
  | c :: t, k + 1, o, r, h => by
    rw [textG] at h
    cases hh : textG k o t with
    | none => rw [hh] at h; cases h
    | some q => rw [hh] at h; cases h; have := textG_le t k o q hh; simp; omega
  | c :: t, 0, o, r, h => by
    rw [textG] at h
    have step : ∀ (k o : Nat) (f : List UInt8 → List UInt8), (textG k o t).map (fun r => (f r.1, r.2 + 1)) = some r → 1 ≤ r.2 ∧ r.2 ≤ (c :: t).length := by
      intro k o f h
      cases hh : textG k o t with
      | none => rw [hh] at h; cases h
      | some q => rw [hh] at h; cases h; have := textG_le t k o q hh; simp; omega
    split at h
    · exact step _ _ _ h
    · split at h
      · split at h
        · cases h
        · exact step _ _ _ h
      · split at h
        · exact step _ _ (fun x => c :: x) h
        · split at h
          · split at h
            · cases h; simp
            · exact step _ _ (fun x => c :: x) h
          · exact step _ _ (fun x => c :: x) h
theorem told_ok {k a t : Int} {x : List UInt8} {m : Int} (h : (told k a t x m).2 = 0) : told k a t x m = (⟨k, a, t, 0, x⟩, 0) := by
  unfold told at h ⊢
  split
  · rename_i hh; rw [if_pos hh] at h; cases h
  · rfl
theorem skipF_stop : ∀ (b : Bool) (l : List UInt8), skipF false (l.drop (skipF b l)) = 0
  | _, [] => by simp [skipF]
  | true, c :: t => by
    simp only [skipF]
    rw [Nat.add_comm, List.drop_succ_cons]
    exact skipF_stop _ t
  | false, c :: t => by
    simp only [skipF]
    split
    · rw [Nat.add_comm, List.drop_succ_cons]; exact skipF_stop _ t
    · split
      · rw [Nat.add_comm, List.drop_succ_cons]; exact skipF_stop _ t
      · rename_i h1 h2
        rw [List.drop_zero, skipF, if_neg h1, if_neg h2]
theorem skip_stop (s : List UInt8) (k : Nat) : skipF false (s.drop (skip s k)) = 0 := by
  have := skipF_stop false (s.drop k)
  rw [List.drop_drop] at this
  exact this
theorem skip_skip (s : List UInt8) (k : Nat) : skip s (skip s k) = skip s k := by
  have := skip_stop s k
  show skip s k + skipF false (s.drop (skip s k)) = skip s k
  rw [this]; rfl
theorem stop_head {c : UInt8} {t : List UInt8} (h : skipF false (c :: t) = 0) : c ≠ 37 ∧ white c = false := by
  rw [skipF] at h
  split at h
  · omega
  · rename_i h1
    split at h
    · omega
    · rename_i h2
      exact ⟨h1, by simpa using h2⟩
theorem regular_of (c : UInt8) (hw : white c = false) (h1 : ¬ (c = 91 ∨ c = 93 ∨ c = 123 ∨ c = 125)) (h2 : c ≠ 60) (h3 : c ≠ 62) (h4 : c ≠ 47) (h5 : c ≠ 40) (h6 : c ≠ 41) (h7 : c ≠ 37) : regular c = true := by
  have g1 : ¬ c = 91 := fun e => h1 (.inl e)
  have g2 : ¬ c = 93 := fun e => h1 (.inr (.inl e))
  have g3 : ¬ c = 123 := fun e => h1 (.inr (.inr (.inl e)))
  have g4 : ¬ c = 125 := fun e => h1 (.inr (.inr (.inr e)))
  simp [regular, hw, delim, delims, g1, g2, g3, g4, h2, h3, h4, h5, h6, h7]
theorem wordT_ok {t : List UInt8} {a r : Int} (h : (wordT t a r).2 = 0) : (wordT t a r).1.k ≠ 0 ∧ (wordT t a r).1.a = a ∧ (wordT t a r).1.t = r := by
  unfold wordT at h ⊢
  split at h
  · rename_i h1
    rw [if_pos h1]
    split at h
    · rename_i h2; exact absurd h h2
    · rename_i h2; rw [if_neg h2]; exact ⟨by simp, rfl, rfl⟩
  · rename_i h1
    rw [if_neg h1]
    split at h
    · rename_i h2; rw [if_pos h2]; exact ⟨by simp, rfl, rfl⟩
    · rename_i h2
      rw [if_neg h2]
      split at h
      · cases h
      · rename_i h3
        rw [if_neg h3, told_ok h]
        exact ⟨by simp, rfl, rfl⟩
/-- Where a token stands. -/
theorem token_bd {s : List UInt8} {a : Nat} (ha : a < s.length) (hsk : skipF false (s.drop a) = 0) (h : (token s a).2 = 0) : (token s a).1.k ≠ 0 ∧ (token s a).1.a = a ∧ (a : Int) < (token s a).1.t ∧ (token s a).1.t ≤ s.length := by
  have hd := drop_cons ha
  have hT : token s a = if s[a] = 91 ∨ s[a] = 93 ∨ s[a] = 123 ∨ s[a] = 125 then mark s a 1
    else if s[a] = 60 then (if (s.drop (a + 1)).head? = some s[a] then mark s a 2 else hex s a)
    else if s[a] = 62 then (if (s.drop (a + 1)).head? = some s[a] then mark s a 2 else refused 3)
    else if s[a] = 47 then name s a
    else if s[a] = 40 then text s a
    else if s[a] = 41 then refused 3
    else word s a := by rw [token, hd]
  rw [hd] at hsk
  obtain ⟨h37, hw⟩ := stop_head hsk
  have two : (s.drop (a + 1)).head? = some s[a] → a + 2 ≤ s.length := by
    intro h
    cases hdd : s.drop (a + 1) with
    | nil => rw [hdd] at h; cases h
    | cons x t =>
      have := congrArg List.length hdd
      simp at this; omega
  rw [hT] at h ⊢
  by_cases g0 : s[a] = 91 ∨ s[a] = 93 ∨ s[a] = 123 ∨ s[a] = 125
  · rw [if_pos g0]; exact ⟨by simp [mark], rfl, by simp only [mark]; omega, by simp only [mark]; omega⟩
  rw [if_neg g0] at h ⊢
  by_cases g1 : s[a] = 60
  · rw [if_pos g1] at h ⊢
    by_cases g : (s.drop (a + 1)).head? = some s[a]
    · have := two g
      rw [if_pos g]; exact ⟨by simp [mark], rfl, by simp only [mark]; omega, by simp only [mark]; omega⟩
    · rw [if_neg g] at h ⊢
      unfold hex at h ⊢
      cases hh : hexF (-1) (s.drop (a + 1)) with
      | inr e =>
        rw [hh] at h
        exfalso
        have : ∀ (l : List UInt8) (x e : Int), hexF x l = .inr e → e ≠ 0 := by
          intro l
          induction l with
          | nil => intro x e he; rw [hexF] at he; cases he; decide
          | cons c t ih =>
            intro x e he
            rw [hexF] at he
            split at he
            · cases he
            · split at he
              · cases hq : hexF x t with
                | inl r => rw [hq] at he; cases he
                | inr e' => rw [hq] at he; cases he; exact ih _ _ hq
              · split at he
                · cases he; decide
                · split at he
                  · cases hq : hexF (digit c) t with
                    | inl r => rw [hq] at he; cases he
                    | inr e' => rw [hq] at he; cases he; exact ih _ _ hq
                  · cases hq : hexF (-1) t with
                    | inl r => rw [hq] at he; cases he
                    | inr e' => rw [hq] at he; cases he; exact ih _ _ hq
        exact this _ _ _ hh h
      | inl r =>
        rw [hh] at h
        simp only at h ⊢
        have := hexF_le _ _ _ hh
        rw [List.length_drop] at this
        rw [told_ok h]
        exact ⟨by simp, rfl, by simp only; omega, by simp only; omega⟩
  rw [if_neg g1] at h ⊢
  by_cases g2 : s[a] = 62
  · rw [if_pos g2] at h ⊢
    by_cases g : (s.drop (a + 1)).head? = some s[a]
    · have := two g
      rw [if_pos g]; exact ⟨by simp [mark], rfl, by simp only [mark]; omega, by simp only [mark]; omega⟩
    · rw [if_neg g] at h; cases h
  rw [if_neg g2] at h ⊢
  by_cases g3 : s[a] = 47
  · rw [if_pos g3] at h ⊢
    have hto := run_le s (show a + 1 ≤ s.length by omega)
    have hto2 : a + 1 ≤ run s (a + 1) := by unfold run; omega
    unfold name at h ⊢
    cases hh : nameF (cut s (a + 1) (run s (a + 1))) with
    | none => rw [hh] at h; cases h
    | some x =>
      rw [hh] at h
      simp only at h ⊢
      rw [told_ok h]
      exact ⟨by simp, rfl, by simp only; omega, by simp only; omega⟩
  rw [if_neg g3] at h ⊢
  by_cases g4 : s[a] = 40
  · rw [if_pos g4] at h ⊢
    unfold text at h ⊢
    cases hh : textG 0 1 (s.drop (a + 1)) with
    | none => rw [hh] at h; cases h
    | some r =>
      rw [hh] at h
      simp only at h ⊢
      have := textG_le _ _ _ _ hh
      rw [List.length_drop] at this
      rw [told_ok h]
      exact ⟨by simp, rfl, by simp only; omega, by simp only; omega⟩
  rw [if_neg g4] at h ⊢
  by_cases g5 : s[a] = 41
  · rw [if_pos g5] at h; cases h
  rw [if_neg g5] at h ⊢
  have hreg := regular_of s[a] hw g0 g1 g2 g3 g4 g5 h37
  have hto := run_le s (show a ≤ s.length by omega)
  have hto2 : a < run s a := by unfold run; rw [hd, runF, if_pos hreg]; omega
  obtain ⟨k1, k2, k3⟩ := wordT_ok h
  exact ⟨k1, k2, by rw [show (word s a).1.t = _ from k3]; omega, by rw [show (word s a).1.t = _ from k3]; omega⟩
theorem next_bd {s : List UInt8} {i : Int} (h : (next s i).2 = 0) (hk : (next s i).1.k ≠ 0) : 0 ≤ i ∧ i ≤ s.length ∧ (next s i).1.a = skip s i.toNat ∧ (next s i).1.a < (next s i).1.t ∧ (next s i).1.t ≤ s.length := by
  unfold next at h hk ⊢
  split
  · rename_i hh; rw [if_pos hh] at h; cases h
  · rename_i hh
    rw [if_neg hh] at h hk
    have hle := skip_le s (k := i.toNat) (by omega)
    rcases Nat.lt_or_ge (skip s i.toNat) s.length with h1 | h1
    · have := token_bd h1 (skip_stop s i.toNat) h
      exact ⟨by omega, by omega, this.2.1, by rw [this.2.1]; exact this.2.2.1, this.2.2.2⟩
    · exfalso
      rw [token, List.drop_eq_nil_of_le h1] at hk
      exact hk rfl
theorem skip_ge (s : List UInt8) (k : Nat) : k ≤ skip s k := by unfold skip; omega
/-- From a on the tokens l are read, up to b. -/
def Steps (s : List UInt8) (a : Int) (l : List Tok) (b : Int) : Prop := ∀ m, upto s (l.length + m) a = match upto s m b with | .inl r => .inl (l ++ r) | .inr f => .inr f
theorem Steps.nil (s : List UInt8) (a : Int) : Steps s a [] a := by
  intro m
  rw [List.length_nil, Nat.zero_add]
  cases upto s m a <;> rfl
theorem Steps.snoc {s : List UInt8} {a b : Int} {l : List Tok} (h : Steps s a l b) (h1 : (next s b).2 = 0) (h2 : (next s b).1.k ≠ 0) : Steps s a (l ++ [(next s b).1]) (next s b).1.t := by
  intro m
  have := h (m + 1)
  rw [List.length_append, List.length_singleton, Nat.add_assoc, Nat.add_comm 1 m, this]
  rw [upto, if_neg (by rw [h1]; simp), if_neg h2]
  cases upto s m (next s b).1.t <;> simp
theorem Steps.fin {s : List UInt8} {a b : Int} {l : List Tok} (h : Steps s a l b) (m : Nat) : upto s (l.length + m) a = match upto s m b with | .inl r => .inl (l ++ r) | .inr f => .inr f := h m
end Lx
end Go.Proofs.YtihjejmmldpelaaGreatDoor
/- The engine's rules for ranges over functions. -/
namespace Go.Proofs.YtihjejmmldpelaaGreatDoor
set_option linter.unusedVariables false
set_option linter.unusedSimpArgs false
set_option linter.defProp false
set_option linter.unusedSimpArgs false
set_option linter.unusedVariables false
namespace Eng
open Go.RowKit

section
variable {S : Nat → Prop} {P : Program} {w w0 : World} {L : List Ent} {PK : List PanicEntry → World → Prop} {K : Value → World → Prop}
theorem OwnS.join {w' : World} {L' : List Ent} (h : OwnS S w0 w L) (k : OwnS NoB w w' L') : OwnS S w0 w' (L' ++ L) := by
  have h' := h.grow k.below
  refine ⟨h'.grew, fun e he => ?_, List.pairwise_append.2 ⟨k.apart, h'.apart, fun e he f hf b hb hb' => ?_⟩⟩
  · rcases List.mem_append.1 he with he | he
    · obtain ⟨a, b⟩ := k.all e he
      refine ⟨a, fun j hj => .inr ?_⟩
      rcases b j hj with h1 | h1
      · exact h1.elim
      · exact Nat.le_trans h.size h1
    · exact h'.all e he
  · have h2 := f.lt (h.mem hf) b hb'
    rcases (k.all e he).2 b hb with h1 | h1
    · exact h1
    · omega
theorem o_beg {l : Nat} {L0 : Loop} {K : World → Prop} (i : Nat) (ho : OwnS S w0 w L) (hi : L[i]? = some (.obj l (lp L0 .ready none))) (k : ∀ w', OwnS S w0 w' (L.set i (.obj l (lp L0 .busy none))) → K w') : BegX P l w K :=
  ⟨_, run_beginRound (ho.at_ i hi), k _ (put_iter ho i hi)⟩
theorem o_end {l : Nat} {L0 : Loop} {j : Option Code} {R : Value → World → Prop} (i : Nat) (ho : OwnS S w0 w L) (hi : L[i]? = some (.obj l (lp L0 .busy none))) (k : ∀ w', OwnS S w0 w' (L.set i (.obj l (lp L0 (if j.isNone then .ready else .done) j))) → R (.bool j.isNone) w') : EndX P l j w R :=
  ⟨_, _, run_endRound (ho.at_ i hi), k _ (put_iter ho i hi)⟩
theorem c_yld {l : Nat} {args : List Value} {R : Value → World → Prop} (h : Yld P l args w R) (k : ∀ v w', R v w' → K v w') : DoX P (mCallV (.func (.yield l) #[] #[]) args.toArray) w PK K := by
  obtain ⟨fn, tmps, asn, bdy, h1, h2⟩ := h
  have hr : (mCallV (.func (.yield l) #[] #[]) args.toArray).run P w = .ok (.round l fn tmps asn bdy) w := by
    rw [← h1]
    simp [mCallV, invoke, Deferred.ofValue, resolve]
  refine ⟨?_⟩
  rw [hr]
  refine ⟨RoundIn.mono h2 ?_⟩
  rintro e w' ⟨v, rfl, hv⟩
  exact k v w' hv
theorem range {js : List (Option Code × (Nat → World → Prop))} {B : Nat → List Value → World → (Value → World → Prop) → Prop} {np f : Nat} {fa ca : Array Value} (ho : OwnS S w0 w L) (hp : plainB P f = true)
    (h : ∀ (L0 : Loop) (df lb : Nat) (w1 : World), OwnS S w0 w1 (.obj lb (lp L0 .ready none) :: .obj df (.deferred (some [])) :: L) →
      (∀ args W R, W.heap[lb]? = some (lp L0 .ready none) → args.length = np → B lb args W R → Yld P lb args W R) →
      Calls P f (fa ++ #[.func (.yield lb) #[] #[]] ++ ca) w1 fun e w3 => ∃ v st pd k, e = .returned v ∧ st ≠ .busy ∧ w3.heap[lb]? = some (lp L0 st pd) ∧ (pd, k) ∈ js ∧ k df (putO w3 lb (lp L0 .exhausted pd))) :
    RangeX P none np (.func (.func f) fa ca) w B js := by
  refine ⟨f, fa, ca, w.heap.size, w.alloc (.deferred (some [])), rfl, hp, ⟨rfl, rfl⟩, fun L0 _ hy => ?_⟩
  exact h L0 w.heap.size (w.alloc (.deferred (some []))).heap.size _ ((ho.allocObj _).allocObj _) (fun args W R h1 h2 h3 => hy _ args W R h1 h2 h3)
/-- The mark of a loop is taken; then the results are read. -/
theorem leave1 {rs : List RV} {K : Ending → World → Prop} {df : Nat} (i : Nat) (ho : OwnS S w0 w L) (hi : L[i]? = some (.obj df (.deferred (some [])))) (k : ∀ w', OwnS S w0 w' (L.set i (.obj df (.deferred none))) → RetD P rs w' K) : LeaveM P rs K [mkD df] .returning w := by
  refine ⟨(fun h => by cases h), df, _, rfl, ?_, k _ (put_iter ho i hi)⟩
  have h : w.heap[df]? = some (.deferred (some [])) := ho.at_ i hi
  simp [Instr.takeDeferred, getObj, setObj, Sem.run, h]
end
end Eng
end Go.Proofs.YtihjejmmldpelaaGreatDoor
/- Contracts: lex.tokens, and the function that it hands back. -/
namespace Go.Proofs.YtihjejmmldpelaaGreatDoor
set_option linter.unusedVariables false
set_option linter.unusedSimpArgs false
set_option linter.defProp false
open Eng Go.RowKit

def fltC (a e : Int) : List Value := [.int .i64 a, .int .i64 e]
def fltV (f : Int × Int) : Value := .agg (fltC f.1 f.2).toArray
def fltE (b : Nat) (f : Int × Int) : Ent := .cells b (fltC f.1 f.2) 36
theorem aggFlt : aggN Tryz.prog 36 = some 2 := by kernel_rfl
theorem szFlt : (Tryz.prog.info? 36).map (·.size) = some 2 := by kernel_rfl
theorem fltC_one (a e : Int) : ∀ v ∈ fltC a e, v.oneCell' = true := by
  intro v hv
  simp only [fltC, List.mem_cons, List.not_mem_nil, or_false] at hv
  rcases hv with rfl | rfl <;> rfl
section
variable {w : World} {PK : List PanicEntry → World → Prop} {K : Value → World → Prop} {S : Nat → Prop} {w0 : World} {L : List Ent}
theorem o_flt (ho : OwnS S w0 w L) (k : ∀ b w', OwnS S w0 w' (fltE b (0, 0) :: L) → K (.pointer (some ⟨b, 0, none⟩)) w') : DoX Tryz.prog (mAlloc 36) w PK K :=
  o_new (fun b => .pointer (some ⟨b, 0, none⟩)) (fltC 0 0) 36 (fun _ => by kernel_rfl) ho k
theorem flt_put (i : Nat) {b : Nat} {f g : Int × Int} (ho : OwnS S w0 w L) (hi : L[i]? = some (fltE b f)) (k : ∀ w', OwnS S w0 w' (L.set i (fltE b g)) → K undef w') : DoX Tryz.prog (mStore 36 (.pointer (some ⟨b, 0, none⟩)) (fltV g)) w PK K :=
  o_put i ho hi (new := fltC g.1 g.2) szFlt (fltC_one _ _) rfl k
theorem m_flt0 : DoX Tryz.prog (mBuild 36 #[]) w PK K = K (fltV (0, 0)) w := do_eq (by kernel_rfl)
theorem m_flt1 {e : Int} : DoX Tryz.prog (mBuild 36 #[(1, .int .i64 e)]) w PK K = K (fltV (0, e)) w := do_eq (by kernel_rfl)
theorem m_flt2 {a e : Int} : DoX Tryz.prog (mBuild 36 #[(0, .int .i64 a), (1, .int .i64 e)]) w PK K = K (fltV (a, e)) w := do_eq (by kernel_rfl)
theorem r_flt2 {a e : Int} : (mBuild 36 #[(0, .int .i64 a), (1, .int .i64 e)]).run Tryz.prog w = .ok (.value (fltV (a, e))) w := by kernel_rfl
theorem fa_f1 {b : Nat} : DoX Tryz.prog (mFA 36 (.pointer (some ⟨b, 0, none⟩)) 1) w PK K = K (.pointer (some ⟨b, 1, none⟩)) w := f_addr (show fOff Tryz.prog 36 1 = some 1 by kernel_rfl)
theorem fa_f0 {b : Nat} : DoX Tryz.prog (mFA 36 (.pointer (some ⟨b, 0, none⟩)) 0) w PK K = K (.pointer (some ⟨b, 0, none⟩)) w := f_addr (show fOff Tryz.prog 36 0 = some 0 by kernel_rfl)
theorem fa_t0 {b : Nat} : DoX Tryz.prog (mFA 41 (.pointer (some ⟨b, 0, none⟩)) 0) w PK K = K (.pointer (some ⟨b, 0, none⟩)) w := f_addr (show fOff Tryz.prog 41 0 = some 0 by kernel_rfl)
theorem fa_t1 {b : Nat} : DoX Tryz.prog (mFA 41 (.pointer (some ⟨b, 0, none⟩)) 1) w PK K = K (.pointer (some ⟨b, 1, none⟩)) w := f_addr (show fOff Tryz.prog 41 1 = some 1 by kernel_rfl)
theorem fa_t2 {b : Nat} : DoX Tryz.prog (mFA 41 (.pointer (some ⟨b, 0, none⟩)) 2) w PK K = K (.pointer (some ⟨b, 2, none⟩)) w := f_addr (show fOff Tryz.prog 41 2 = some 2 by kernel_rfl)
end
def ptrE (b : Nat) (f : Nat) : Ent := .cells b [.pointer (some ⟨f, 0, none⟩)] 91
def intE (b : Nat) (i : Int) : Ent := .cells b [.int .i64 i] 3
def strE (b : Nat) (s : List UInt8) : Ent := .cells b [.string ⟨s.toArray⟩] 9
theorem tokens_ret (s : List UInt8) (i : Int) (fb : Nat) (w : World) : Ret Tryz.prog 65 #[.string ⟨s.toArray⟩, .int .i64 i, .pointer (some ⟨fb, 0, none⟩)] w
    (fun v w' => ∃ b3 b4 b5, v = .func (.func 103) #[] #[.pointer (some ⟨b3, 0, none⟩), .pointer (some ⟨b4, 0, none⟩), .pointer (some ⟨b5, 0, none⟩)] ∧ Own w w' [ptrE b5 fb, intE b4 i, strE b3 s]) := by
  refine ret_of fun K hK => S_lex_tokens_ok ?_
  unfold S_lex_tokens
  refine o_new (fun b => .pointer (some ⟨b, 0, none⟩)) [.string ⟨s.toArray⟩] 9 (fun _ => by kernel_rfl) (Own.start w) fun b3 w1 ho => ?_
  refine o_new (fun b => .pointer (some ⟨b, 0, none⟩)) [.int .i64 i] 3 (fun _ => by kernel_rfl) ho fun b4 w2 ho => ?_
  refine o_new (fun b => .pointer (some ⟨b, 0, none⟩)) [.pointer (some ⟨fb, 0, none⟩)] 91 (fun _ => by kernel_rfl) ho fun b5 w3 ho => ?_
  simp only [rs]
  exact hK _ _ ⟨b3, b4, b5, rfl, ho⟩
/-- The pieces that the iteration holds: the loop, its mark, the captured variables, the fault. -/
def front (L0 : Loop) (lb df b3 b4 b5 fb : Nat) (s : List UInt8) (i : Int) (f : Int × Int) : List Ent :=
  [.obj lb (lp L0 .ready none), .obj df (.deferred (some [])), ptrE b5 fb, intE b4 i, strE b3 s, fltE fb f]
theorem tokens1_calls {s : List UInt8} {i0 : Int} {L0 : Loop} {lb df b3 b4 b5 fb : Nat} {w0 w1 : World} {M0 : List Ent} (R : List Lx.Tok → List Ent → Prop) {K : Ending → World → Prop} (hs : s.length ≤ 1099511627776)
    (ho : Own w0 w1 (front L0 lb df b3 b4 b5 fb s i0 (0, 0) ++ M0)) (hM : R [] M0)
    (hy : ∀ (l : List Lx.Tok) (i : Int) (M : List Ent) (W : World) (b : Nat), Lx.Steps s i0 l i → (Lx.next s i).2 = 0 → (Lx.next s i).1.k ≠ 0 → i0 + l.length ≤ i → R l M → Own w0 W (tokE b (Lx.next s i).1 :: (front L0 lb df b3 b4 b5 fb s i (0, 0) ++ M)) →
      Yld Tryz.prog lb [tokV (Lx.next s i).1] W (fun v W' => (v = .bool true ∧ ∃ M', R (l ++ [(Lx.next s i).1]) M' ∧ Own w0 W' (tokE b (Lx.next s i).1 :: (front L0 lb df b3 b4 b5 fb s i (0, 0) ++ M'))) ∨ (v = .bool false ∧ K (.returned (.tuple #[])) W')))
    (hend : ∀ (l : List Lx.Tok) (i : Int) (M : List Ent) (W : World), Lx.Steps s i0 l i → R l M → (Lx.next s i).2 = 0 → (Lx.next s i).1.k = 0 → Own w0 W (front L0 lb df b3 b4 b5 fb s i (0, 0) ++ M) → K (.returned (.tuple #[])) W)
    (herr : ∀ (l : List Lx.Tok) (i : Int) (M : List Ent) (W : World), Lx.Steps s i0 l i → R l M → (Lx.next s i).2 ≠ 0 → Own w0 W (front L0 lb df b3 b4 b5 fb s i (Lx.skipI s i, (Lx.next s i).2) ++ M) → K (.returned (.tuple #[])) W) :
    Calls Tryz.prog 103 #[.func (.yield lb) #[] #[], .pointer (some ⟨b3, 0, none⟩), .pointer (some ⟨b4, 0, none⟩), .pointer (some ⟨b5, 0, none⟩)] w1 K := by
  refine S_lex_tokens_1_ok ?_
  unfold S_lex_tokens_1
  refine loop (fun vs w' => ∃ (l : List Lx.Tok) (i : Int) (M : List Ent), vs = [] ∧ Lx.Steps s i0 l i ∧ i0 + l.length ≤ i ∧ R l M ∧ Own w0 w' (front L0 lb df b3 b4 b5 fb s i (0, 0) ++ M))
    (fun _ w' => match w'.heap[b4]? with | some (.cells cs _ _) => (match cs.toList with | [.int _ n] => (s.length - n).toNat | _ => 0) | _ => 0) ⟨[], i0, M0, rfl, Lx.Steps.nil s i0, by simp, hM, ho⟩ ?_
  rintro vs w2 ⟨l, i, M, rfl, hst, hil, hR, ho⟩ _
  unfold S_lex_tokens_1_0
  have h4 : w2.heap[b4]? = some (.cells #[.int .i64 i] 3 (0, 0)) := ho.at_ 3 rfl
  rw [l_cell nStr (ho.cell 4 rfl 0 rfl), l_cell nInt (ho.cell 3 rfl 0 rfl)]
  refine c_below ho (next_ret s i w2 hs) ?_
  rintro _ w3 rfl ho
  simp only [tokR, ex]
  refine o_tok ho fun b w4 ho => ?_
  refine o_put 0 ho rfl (new := tokC (Lx.next s i).1) szTok (tokC_one _) rfl fun w5 ho => ?_
  have ho : Own w0 w5 (tokE b (Lx.next s i).1 :: (front L0 lb df b3 b4 b5 fb s i (0, 0) ++ M)) := ho
  simp only [rs]
  by_cases he : (Lx.next s i).2 ≠ 0
  · simp only [decide_eq_true he, i_t]
    refine quiet (q_at _ (fun _ hb => run_load_cell (by kernel_rfl) ((ho.grow hb).cell 3 rfl 0 rfl)) ?_)
    refine q_at _ (fun _ hb => run_load_cell nStr ((ho.grow hb).cell 5 rfl 0 rfl)) ?_
    refine q_at _ (fun _ hb => run_load_cell nInt ((ho.grow hb).cell 4 rfl 0 rfl)) ?_
    refine q_call (.int .i64 (Lx.skipI s i)) (fun w hb => ret_same (skip_ret s i w (by omega)) hb) ?_
    refine q_do _ (fun _ => r_flt2) (q_do _ (fun _ => run_nil) ?_)
    intro w6 hb
    refine flt_put 6 (ho.grow hb) rfl fun w7 ho => ?_
    exact herr l i M w7 hst hR he ho.tail
  have he0 : (Lx.next s i).2 = 0 := by omega
  simp only [decide_eq_false he, i_f, fa_t0]
  rw [l_cell nInt (ho.cell 0 rfl 0 rfl)]
  simp only [rs]
  by_cases hk : (Lx.next s i).1.k = 0
  · simp only [hk, decide_true, rs, g_un]
    exact hend l i M w5 hst hR he0 hk ho.tail
  · simp only [hk, decide_false, rs, l_at (ho.agg 0 rfl aggTok)]
    refine c_yld (args := [tokV (Lx.next s i).1]) (hy l i M w5 b hst he0 hk hil hR ho) ?_
    have hbd := Lx.next_bd he0 hk
    rintro v w6 (⟨rfl, M', hR', ho⟩ | ⟨rfl, hK⟩)
    · simp only [rs, Bool.not_true, fa_t2]
      rw [l_cell nInt (ho.cell 0 rfl 2 rfl)]
      refine o_store 4 ho rfl (by kernel_rfl) rfl (by simp) fun w7 ho => ?_
      have ho : Own w0 w7 (front L0 lb df b3 b4 b5 fb s (Lx.next s i).1.t (0, 0) ++ M') := ho.tail
      have h4' : w7.heap[b4]? = some (.cells #[.int .i64 (Lx.next s i).1.t] 3 (0, 0)) := ho.at_ 3 rfl
      have hge := Lx.skip_ge s i.toNat
      refine nextX ⟨_, _, M', rfl, hst.snoc he0 hk, by rw [List.length_append, List.length_singleton]; omega, hR', ho⟩ ?_
      simp only [h4, h4']
      omega
    · simp only [rs, Bool.not_false]
      exact hK
end Go.Proofs.YtihjejmmldpelaaGreatDoor
/- Contract: lex.Upto. -/
namespace Go.Proofs.YtihjejmmldpelaaGreatDoor
set_option linter.unusedVariables false
set_option linter.unusedSimpArgs false
set_option linter.defProp false
open Eng Go.RowKit

def TRow (v : Value) (l : List Lx.Tok) : Ent := .row 41 5 v l.length (l.flatMap tokC)
def slcE (b : Nat) (v : Value) : Ent := .cells b [v] 34
theorem tokC_len (l : List Lx.Tok) : (l.flatMap tokC).length = l.length * 5 := by
  induction l with
  | nil => rfl
  | cons x l ih => rw [List.flatMap_cons, List.length_append, ih, List.length_cons]; show 5 + _ = _; omega
theorem nSl : notAgg Tryz.prog 34 = true := by kernel_rfl
section
variable {w : World} {PK : List PanicEntry → World → Prop} {K : Value → World → Prop} {S : Nat → Prop} {w0 : World} {L : List Ent}
theorem trow_one {v : Value} {l : List Lx.Tok} (i : Nat) (ho : OwnS S w0 w L) (hi : L[i]? = some (TRow v l)) : v.oneCell' = true := by
  obtain ⟨_, a, cap, rfl, _⟩ := ho.slRow i hi
  rfl
theorem trow_sl {v : Value} {l : List Lx.Tok} (i : Nat) (ho : OwnS S w0 w L) (hi : L[i]? = some (TRow v l)) : Sl w v 5 l.length (l.flatMap tokC) := ho.slRow i hi
/-- append(l, x): the row is the i-th piece. -/
theorem o_appT (i : Nat) {v : Value} {l : List Lx.Tok} {x : Lx.Tok} {cs : Array Bool} {PK2 : List PanicEntry → World → Prop} (ho : OwnS S w0 w L) (hi : L[i]? = some (TRow v l)) (hb : l.length ≤ 1099511627776)
    (k : ∀ v' w', OwnS S w0 w' (L.set i (TRow v' (l ++ [x]))) → K v' w') :
    DoX Tryz.prog (mBuildS 34 1 #[(0, tokV x)]) w PK fun t w => DoX Tryz.prog (mB .append #[34, 34] 34 cs #[v, t]) w PK2 K := by
  refine o_new (fun b => .slice (some ⟨b, 0, none⟩) 1 1) (tokC x) 41 (fun _ => by kernel_rfl) ho fun nb w4 h4 => ?_
  refine o_append (i + 1) Tryz.underlying34 (show elB Tryz.prog 41 5 48 = true by kernel_rfl) (by decide) h4 (by rw [List.getElem?_cons_succ]; exact hi) (h4.sl 0 rfl 5 1 1 rfl) (tokC_one x) (by omega) (by omega) fun v' w5 h5 => ?_
  refine k v' w5 ?_
  have e : TRow v' (l ++ [x]) = .row 41 5 v' (l.length + 1) (l.flatMap tokC ++ tokC x) := by
    rw [TRow, List.length_append, List.flatMap_append]; simp
  rw [e]
  exact h5.tail
end
def uptoP (s : List UInt8) (i n : Int) : List Lx.Tok × (Int × Int) :=
  if i < 0 ∨ (s.length : Int) < i then ([], (0, 1)) else match Lx.upto s n.toNat i with | .inl l => (l, (0, 0)) | .inr f => ([], f)
theorem upto_end {s : List UInt8} {i b : Int} {l : List Lx.Tok} {n : Nat} (h : Lx.Steps s i l b) (hn : l.length < n) (he : (Lx.next s b).2 = 0) (hk : (Lx.next s b).1.k = 0) : Lx.upto s n i = .inl l := by
  obtain ⟨m, rfl⟩ : ∃ m, n = l.length + (m + 1) := ⟨n - l.length - 1, by omega⟩
  rw [h (m + 1), Lx.upto, if_neg (by rw [he]; simp), if_pos hk]
  simp
theorem upto_err {s : List UInt8} {i b : Int} {l : List Lx.Tok} {n : Nat} (h : Lx.Steps s i l b) (hn : l.length < n) (he : (Lx.next s b).2 ≠ 0) : Lx.upto s n i = .inr (Lx.skipI s b, (Lx.next s b).2) := by
  obtain ⟨m, rfl⟩ : ∃ m, n = l.length + (m + 1) := ⟨n - l.length - 1, by omega⟩
  rw [h (m + 1), Lx.upto, if_pos he]
theorem upto_full {s : List UInt8} {i b : Int} {l : List Lx.Tok} (h : Lx.Steps s i l b) : Lx.upto s l.length i = .inl l := by
  have := h 0
  rw [Nat.add_zero, Lx.upto] at this
  simpa using this
end Go.Proofs.YtihjejmmldpelaaGreatDoor
/- Contract: lex.All. -/
namespace Go.Proofs.YtihjejmmldpelaaGreatDoor
set_option linter.unusedVariables false
set_option linter.unusedSimpArgs false
set_option linter.defProp false
open Eng Go.RowKit

def allP (s : List UInt8) : List Lx.Tok × (Int × Int) :=
  match Lx.upto s 1048577 0 with
  | .inl l => if 1048576 < l.length then ([], ((l.getD 1048576 Lx.none_).a, 6)) else (l, (0, 0))
  | .inr f => ([], f)
theorem draw {w : World} {F : World → Prop} (h : F w.drew) : DrawX w F := ⟨h⟩
theorem all_ret (s : List UInt8) (w : World) (hs : s.length ≤ 1099511627776) : Ret Tryz.prog 26 #[.string ⟨s.toArray⟩] w
    (fun r w' => ∃ v, r = .tuple #[v, fltV (allP s).2] ∧ Own w w' [TRow v (allP s).1]) := by
  refine ret_of fun K hK => S_lex_All_ok ?_
  unfold S_lex_All
  have ho := (Own.start w).nilRow 41 5
  refine o_new (fun b => .pointer (some ⟨b, 0, none⟩)) [.slice none 0 0] 34 (fun _ => by kernel_rfl) ho fun b2 w1 ho => ?_
  refine o_flt ho fun b3' w2 ho => ?_
  refine o_new (fun b => .pointer (some ⟨b, 0, none⟩)) [.slice none 0 0] 34 (fun _ => by kernel_rfl) ho fun b4' w3 ho => ?_
  refine o_flt ho fun fb w4 ho => ?_
  refine c_ret (tokens_ret s 0 fb w4) ?_
  rintro _ w5 ⟨b3, b4, b5, rfl, hn5⟩
  have ho := ho.join hn5
  let M (v : Value) (l : List Lx.Tok) (u : Value) (g : Int × Int) : List Ent := [slcE b4' v, fltE b3' g, slcE b2 u, TRow v l]
  -- the results are read
  have fin : ∀ (df : Nat) (f : Int × Int) (v u : Value) (l : List Lx.Tok) (g : Int × Int) (W : World), Own w W (.obj df (.deferred (some [])) :: fltE fb f :: M v l u g) → ((u = v ∧ (allP s) = (l, g)) ∨ (u = .slice none 0 0 ∧ allP s = ([], g))) →
      LeaveM Tryz.prog [.cell (.pointer (some ⟨b2, 0, none⟩)) 34, .cell (.pointer (some ⟨b3', 0, none⟩)) 36] K [(mkD df)] .returning W := by
    intro df f v u l g W ho hr
    refine leave1 0 ho rfl fun W2 ho => ?_
    refine ret_v2 (rv_cell (ho.fld 4 rfl 0 rfl nSl)) (rv_cell (ho.agg 3 rfl aggFlt)) (hK _ _ ⟨u, ?_⟩)
    rcases hr with ⟨rfl, hr⟩ | ⟨rfl, hr⟩
    · rw [hr]; exact ⟨rfl, ho.tail.tail.tail.tail.tail⟩
    · rw [hr]; exact ⟨rfl, (ho.sub (List.nil_sublist _)).nilRow _ 5⟩
  refine range ho (by kernel_rfl) fun L0 df lb w6 ho hy => ?_
  refine tokens1_calls (s := s) (i0 := 0) (L0 := L0) (lb := lb) (df := df) (b3 := b3) (b4 := b4) (b5 := b5) (fb := fb) (w0 := w) (M0 := M (.slice none 0 0) [] (.slice none 0 0) (0, 0)) (fun l M' => ∃ v, M' = M v l (.slice none 0 0) (0, 0) ∧ l.length ≤ 1048576) hs ho ⟨_, rfl, by simp⟩ ?_ ?_ ?_
  · rintro l b M' W bt hst he hk hil ⟨v, rfl, hln⟩ ho
    have hbd := Lx.next_bd he hk
    have hs2 := hst.snoc he hk
    generalize Lx.next s b = nx at *
    have key : ∀ R : Value → World → Prop, (∀ v' W6, l.length < 1048576 → Own w W6 (tokE bt nx.1 :: (front L0 lb df b3 b4 b5 fb s b (0, 0) ++ M v' (l ++ [nx.1]) (.slice none 0 0) (0, 0))) → R (.bool true) W6) →
        (∀ W6, l.length = 1048576 → Own w W6 (.obj lb (lp L0 .done (some .ret)) :: .obj df (.deferred (some [])) :: ptrE b5 fb :: intE b4 b :: strE b3 s :: fltE fb (0, 0) :: M v l (.slice none 0 0) (nx.1.a, 6)) → R (.bool false) W6) → Yld Tryz.prog lb [tokV nx.1] W R := by
     intro R hR1 hR2
     refine hy _ W _ (ho.at_ 1 rfl) rfl ?_
     refine o_tok ho fun b10 W1 ho => ?_
     refine o_put 0 ho rfl (new := tokC nx.1) szTok (tokC_one _) rfl fun W2 ho => ?_
     refine o_beg 2 ho rfl fun W3 ho => ?_
     rw [l_cell nSl (ho.cell 8 rfl 0 rfl), sl_len Tryz.underlying34 (trow_sl 11 ho rfl)]
     simp only [rs]
     by_cases hfull : (l.length : Int) = 1048576
     · simp only [hfull, decide_true, i_t]
       refine draw ?_
       have ho := ho.drew
       have hout : ∀ W5, Own w W5 (tokE b10 nx.1 :: tokE bt nx.1 :: .obj lb (lp L0 .busy none) :: .obj df (.deferred (some [])) :: ptrE b5 fb :: intE b4 b :: strE b3 s :: fltE fb (0, 0) :: M v l (.slice none 0 0) (nx.1.a, 6)) → S_lex_All_0 lb R W5 := by
         intro W5 ho
         unfold S_lex_All_0
         exact o_end 2 ho rfl fun W6 ho => hR2 W6 (by omega) ho.tail.tail
       have ho : Own w _ (tokE b10 nx.1 :: tokE bt nx.1 :: .obj lb (lp L0 .busy none) :: .obj df (.deferred (some [])) :: ptrE b5 fb :: intE b4 b :: strE b3 s :: fltE fb (0, 0) :: M v l (.slice none 0 0) (0, 0)) := ho
       refine ⟨?_, ?_⟩
       · rw [fa_t1]
         refine ⟨?_, ?_⟩
         · rw [l_cell nInt (ho.cell 0 rfl 1 rfl)]
           refine ⟨?_, ?_⟩
           · rw [m_flt2]
             refine o_store 10 ho rfl (by kernel_rfl) rfl (by simp) fun W3 ho => ?_
             exact flt_put (g := (nx.1.a, 6)) 9 ho rfl fun W4 ho => hout W4 ho
           · refine o_store 10 ho rfl (by kernel_rfl) rfl (by simp) fun W3 ho => ?_
             rw [m_flt2]
             exact flt_put (g := (nx.1.a, 6)) 9 ho rfl fun W4 ho => hout W4 ho
         · refine o_store 10 ho rfl (by kernel_rfl) rfl (by simp) fun W3 ho => ?_
           rw [l_cell nInt (ho.cell 0 rfl 1 rfl), m_flt2]
           exact flt_put (g := (nx.1.a, 6)) 9 ho rfl fun W4 ho => hout W4 ho
       · refine o_store 10 ho rfl (by kernel_rfl) rfl (by simp) fun W3 ho => ?_
         rw [fa_t1, l_cell nInt (ho.cell 0 rfl 1 rfl), m_flt2]
         exact flt_put (g := (nx.1.a, 6)) 9 ho rfl fun W4 ho => hout W4 ho
     · simp only [hfull, decide_false, i_f]
       rw [l_cell nSl (ho.cell 8 rfl 0 rfl), l_at (ho.agg 0 rfl aggTok)]
       refine o_appT (x := nx.1) 11 ho rfl (by omega) fun v' W4 ho => ?_
       refine o_store 8 ho rfl (by kernel_rfl) (trow_one 11 ho rfl) (by simp) fun W5 ho => ?_
       exact o_end 2 ho rfl fun W6 ho => hR1 v' W6 (by omega) ho.tail
    refine key _ (fun v' W6 hl ho => .inl ⟨rfl, M v' (l ++ [nx.1]) (.slice none 0 0) (0, 0), ⟨v', rfl, by rw [List.length_append, List.length_singleton]; omega⟩, ho⟩) fun W6 hl ho => .inr ⟨rfl, ?_⟩
    have hA : allP s = ([], (nx.1.a, 6)) := by
      have hu := upto_full hs2
      rw [show (l ++ [nx.1]).length = 1048577 by rw [List.length_append, List.length_singleton]; omega] at hu
      rw [allP, hu]
      simp only
      rw [if_pos (by rw [List.length_append, List.length_singleton]; omega)]
      have hg : (l ++ [nx.1]).getD 1048576 Lx.none_ = nx.1 := by
        rw [List.getD_eq_getElem?_getD, List.getElem?_append_right (by omega), show 1048576 - l.length = 0 by omega]; rfl
      rw [hg]
    refine ⟨_, .done, some .ret, _, rfl, (by intro h; cases h), ho.at_ 0 rfl, List.mem_cons.2 (.inr (List.mem_cons.2 (.inl rfl))), ?_⟩
    have hp : Own w _ (.obj lb (lp L0 .exhausted (some .ret)) :: .obj df (.deferred (some [])) :: ptrE b5 fb :: intE b4 b :: strE b3 s :: fltE fb (0, 0) :: M v l (.slice none 0 0) (nx.1.a, 6)) := put_iter (o' := lp L0 .exhausted (some .ret)) ho 0 rfl
    exact fin df (0, 0) v _ l _ _ (hp.tail.sub (.cons_cons _ (.cons _ (.cons _ (.cons _ (List.Sublist.refl _)))))) (.inr ⟨rfl, hA⟩)
  · rintro l b M' W hst ⟨v, rfl, hln⟩ he hk ho
    refine ⟨_, .ready, none, _, rfl, (by intro h; cases h), ho.at_ 0 rfl, List.mem_cons.2 (.inl rfl), ?_⟩
    have hp : Own w (putO W lb (lp L0 .exhausted none)) (.obj lb (lp L0 .exhausted none) :: .obj df (.deferred (some [])) :: ptrE b5 fb :: intE b4 b :: strE b3 s :: fltE fb (0, 0) :: M v l (.slice none 0 0) (0, 0)) := put_iter (o' := lp L0 .exhausted none) ho 0 rfl
    have hp : Own w (putO W lb (lp L0 .exhausted none)) (.obj df (.deferred (some [])) :: fltE fb (0, 0) :: M v l (.slice none 0 0) (0, 0)) := hp.tail.sub (.cons_cons _ (.cons _ (.cons _ (.cons _ (List.Sublist.refl _)))))
    have hA : allP s = (l, (0, 0)) := by
      rw [allP, upto_end hst (by omega) he hk]
      simp only
      rw [if_neg (by omega)]
    rw [fa_f1, l_cell nErr (hp.cell 1 rfl 1 rfl)]
    simp only [rs, ne_eq, not_true, decide_false]
    rw [l_cell nSl (hp.cell 2 rfl 0 rfl), m_flt0]
    refine o_store 4 hp rfl (by kernel_rfl) (trow_one 5 hp rfl) (by simp) fun W3 ho => ?_
    refine flt_put (g := (0, 0)) 3 ho rfl fun W4 ho => ?_
    exact fin df (0, 0) v v l (0, 0) W4 ho (.inl ⟨rfl, hA⟩)
  · rintro l b M' W hst ⟨v, rfl, hln⟩ he ho
    refine ⟨_, .ready, none, _, rfl, (by intro h; cases h), ho.at_ 0 rfl, List.mem_cons.2 (.inl rfl), ?_⟩
    have hp : Own w (putO W lb (lp L0 .exhausted none)) (.obj lb (lp L0 .exhausted none) :: .obj df (.deferred (some [])) :: ptrE b5 fb :: intE b4 b :: strE b3 s :: fltE fb (Lx.skipI s b, (Lx.next s b).2) :: M v l (.slice none 0 0) (0, 0)) := put_iter (o' := lp L0 .exhausted none) ho 0 rfl
    have hp : Own w (putO W lb (lp L0 .exhausted none)) (.obj df (.deferred (some [])) :: fltE fb (Lx.skipI s b, (Lx.next s b).2) :: M v l (.slice none 0 0) (0, 0)) := hp.tail.sub (.cons_cons _ (.cons _ (.cons _ (.cons _ (List.Sublist.refl _)))))
    have hA : allP s = ([], (Lx.skipI s b, (Lx.next s b).2)) := by
      rw [allP, upto_err hst (by omega) he]
    rw [fa_f1, l_cell nErr (hp.cell 1 rfl 1 rfl)]
    simp only [rs, decide_eq_true he]
    refine draw ?_
    have hp := hp.drew
    refine ⟨?_, ?_⟩
    · rw [l_at (hp.agg 1 rfl aggFlt)]
      refine o_store 4 hp rfl (by kernel_rfl) rfl (by simp) fun W3 ho => ?_
      refine flt_put (g := (Lx.skipI s b, (Lx.next s b).2)) 3 ho rfl fun W4 ho => ?_
      exact fin df _ v _ l _ W4 ho (.inr ⟨rfl, hA⟩)
    · refine o_store 4 hp rfl (by kernel_rfl) rfl (by simp) fun W3 ho => ?_
      rw [l_at (ho.agg 1 rfl aggFlt)]
      refine flt_put (g := (Lx.skipI s b, (Lx.next s b).2)) 3 ho rfl fun W4 ho => ?_
      exact fin df _ v _ l _ W4 ho (.inr ⟨rfl, hA⟩)
end Go.Proofs.YtihjejmmldpelaaGreatDoor
/- The engine's rule for comparing structs of integers and strings. -/
namespace Go.Proofs.YtihjejmmldpelaaGreatDoor
set_option linter.unusedVariables false
set_option linter.unusedSimpArgs false
set_option linter.defProp false
set_option linter.unusedSimpArgs false
set_option linter.unusedVariables false
namespace Eng
open Go.RowKit

/-- The fields' places, and whether they hold strings. -/
def eqSh (P : Program) : List Field → Option (List (Nat × Bool))
  | [] => some []
  | f :: fs =>
    if f.name == "_" then none
    else match P.underlying f.type with
      | some (.int _) => (eqSh P fs).map ((f.offset, false) :: ·)
      | some .string => (eqSh P fs).map ((f.offset, true) :: ·)
      | _ => none
def cellOk : Bool → Option Value → Option Value → Bool
  | false, some (.int k _), some (.int k' _) => decide (k = k')
  | true, some (.string _), some (.string _) => true
  | _, _, _ => false
def cellEq : Option Value → Option Value → Bool
  | some (.int _ a), some (.int _ b) => a == b
  | some (.string a), some (.string b) => a.toList == b.toList
  | _, _ => false
section
variable {P : Program} {w : World} {PK : List PanicEntry → World → Prop} {K : Value → World → Prop}
theorem run_eqSh (d : Nat) (xs ys : Array Value) : ∀ (fs : List Field) (sh : List (Nat × Bool)), eqSh P fs = some sh → (sh.all fun p => cellOk p.2 xs[p.1]? ys[p.1]?) = true →
    (Op.eqFields (d + 1) xs ys fs).run P w = .ok (sh.all fun p => cellEq xs[p.1]? ys[p.1]?) w
  | [], sh, h, _ => by
    cases h
    simp [Op.eqFields]
  | f :: fs, sh, h, hok => by
    rw [eqSh] at h
    split at h
    · cases h
    · rename_i hn
      have hn' : f.name ≠ "_" := by simpa using hn
      split at h
      · rename_i k hu
        obtain ⟨sh', h', rfl⟩ := Option.map_eq_some_iff.1 h
        simp only [List.all_cons, Bool.and_eq_true] at hok
        obtain ⟨h0, hok⟩ := hok
        have ih := run_eqSh d xs ys fs sh' h' hok
        cases hx : xs[f.offset]? with
        | none => rw [hx] at h0; cases h0
        | some a =>
          cases hy : ys[f.offset]? with
          | none => rw [hx, hy] at h0; cases a <;> cases h0
          | some b =>
            rw [hx, hy] at h0
            cases a <;> cases b <;> first | (cases h0; done) | skip
            rename_i k1 a k2 b
            simp only [cellOk, decide_eq_true_eq] at h0
            subst h0
            simp only [Op.eqFields, hn', ne_eq, not_false_eq_true, if_true, Sem.run_bind, part, isAgg, run_underlying hu, Result.andThen_ok, Sem.run_pure, Bool.false_eq_true, if_false, hx, hy, run_equalIn_int w d f.type k1 k a b hu, List.all_cons, cellEq]
            cases hab : (a == b)
            · simp
            · simp [ih]; rfl
      · rename_i hu
        obtain ⟨sh', h', rfl⟩ := Option.map_eq_some_iff.1 h
        simp only [List.all_cons, Bool.and_eq_true] at hok
        obtain ⟨h0, hok⟩ := hok
        have ih := run_eqSh d xs ys fs sh' h' hok
        cases hx : xs[f.offset]? with
        | none => rw [hx] at h0; cases h0
        | some a =>
          cases hy : ys[f.offset]? with
          | none => rw [hx, hy] at h0; cases a <;> cases h0
          | some b =>
            rw [hx, hy] at h0
            cases a <;> cases b <;> first | (cases h0; done) | skip
            rename_i a b
            simp only [Op.eqFields, hn', ne_eq, not_false_eq_true, if_true, Sem.run_bind, part, isAgg, run_underlying hu, Result.andThen_ok, Sem.run_pure, Bool.false_eq_true, if_false, hx, hy, run_equalIn_string w d f.type a b hu, List.all_cons, cellEq]
            cases hab : (a.toList == b.toList)
            · simp
            · simp [ih]; rfl
      · cases h
/-- What makes a struct type comparable by its cells. -/
def eqT (P : Program) (T : TypeId) (sh : List (Nat × Bool)) : Prop :=
  P.underlying T = some (.struct (P.fieldsOf T)) ∧ P.stoodInHeld T = false ∧ P.eqGuardType P.depth T = false ∧ eqSh P (P.fieldsOf T).toList = some sh
theorem run_eql_agg {T : TypeId} {sh : List (Nat × Bool)} (h : eqT P T sh) {xo yo : Operand} {xs ys : Array Value} (hok : (sh.all fun p => cellOk p.2 xs[p.1]? ys[p.1]?) = true) :
    (mEq .eql T xo yo (.agg xs) (.agg ys)).run P w = .ok (.value (.bool (sh.all fun p => cellEq xs[p.1]? ys[p.1]?))) w := by
  obtain ⟨h1, h2, h3, h4⟩ := h
  refine mv_run ?_
  rw [Sem.run_bind, run_eqGuard_agg w .eql T xo yo xs ys h3]
  simp only [Result.andThen_ok]
  rw [run_eql_struct, run_equalIn_struct w 9999 T xs ys h1 h2, run_eqSh 9998 xs ys _ sh h4 hok]
  rfl
theorem run_neq_agg {T : TypeId} {sh : List (Nat × Bool)} (h : eqT P T sh) {xo yo : Operand} {xs ys : Array Value} (hok : (sh.all fun p => cellOk p.2 xs[p.1]? ys[p.1]?) = true) :
    (mEq .neq T xo yo (.agg xs) (.agg ys)).run P w = .ok (.value (.bool (!(sh.all fun p => cellEq xs[p.1]? ys[p.1]?)))) w := by
  obtain ⟨h1, h2, h3, h4⟩ := h
  refine mv_run ?_
  rw [Sem.run_bind, run_eqGuard_agg w .neq T xo yo xs ys h3]
  simp only [Result.andThen_ok]
  rw [run_neq_struct, run_equalIn_struct w 9999 T xs ys h1 h2, run_eqSh 9998 xs ys _ sh h4 hok]
  rfl
end
end Eng
end Go.Proofs.YtihjejmmldpelaaGreatDoor
/- Tokens and faults are compared. -/
namespace Go.Proofs.YtihjejmmldpelaaGreatDoor
set_option linter.unusedVariables false
set_option linter.unusedSimpArgs false
set_option linter.defProp false
open Eng Go.RowKit

theorem eqTok : eqT Tryz.prog 41 [(0, false), (1, false), (2, false), (3, false), (4, true)] := ⟨by kernel_rfl, by kernel_rfl, by kernel_rfl, by kernel_rfl⟩
theorem eqFlt : eqT Tryz.prog 36 [(0, false), (1, false)] := ⟨by kernel_rfl, by kernel_rfl, by kernel_rfl, by kernel_rfl⟩
theorem str_beq (a b : List UInt8) : ((⟨a.toArray⟩ : ByteArray).toList == (⟨b.toArray⟩ : ByteArray).toList) = decide (a = b) := by
  rw [str_toList, str_toList]
  by_cases h : a = b <;> simp [h]
theorem tok_beq (x y : Lx.Tok) : ([(0, false), (1, false), (2, false), (3, false), (4, true)] : List (Nat × Bool)).all (fun p => cellEq (tokC x).toArray[p.1]? (tokC y).toArray[p.1]?) = decide (x = y) := by
  have e : ([(0, false), (1, false), (2, false), (3, false), (4, true)] : List (Nat × Bool)).all (fun p => cellEq (tokC x).toArray[p.1]? (tokC y).toArray[p.1]?) = ((x.k == y.k) && ((x.a == y.a) && ((x.t == y.t) && ((x.n == y.n) && (((⟨x.s.toArray⟩ : ByteArray).toList == (⟨y.s.toArray⟩ : ByteArray).toList) && true))))) := rfl
  rw [e, str_beq, Bool.eq_iff_iff]
  obtain ⟨a, b, c, d, f⟩ := x
  obtain ⟨a', b', c', d', f'⟩ := y
  simp
theorem flt_beq (x y : Int × Int) : ([(0, false), (1, false)] : List (Nat × Bool)).all (fun p => cellEq (fltC x.1 x.2).toArray[p.1]? (fltC y.1 y.2).toArray[p.1]?) = decide (x = y) := by
  have e : ([(0, false), (1, false)] : List (Nat × Bool)).all (fun p => cellEq (fltC x.1 x.2).toArray[p.1]? (fltC y.1 y.2).toArray[p.1]?) = ((x.1 == y.1) && ((x.2 == y.2) && true)) := rfl
  rw [e, Bool.eq_iff_iff]
  obtain ⟨a, b⟩ := x
  obtain ⟨a', b'⟩ := y
  simp
section
variable {w : World} {PK : List PanicEntry → World → Prop} {K : Value → World → Prop}
theorem r_tokne {xo yo : Operand} {x y : Lx.Tok} : (mEq .neq 41 xo yo (tokV x) (tokV y)).run Tryz.prog w = .ok (.value (.bool (!decide (x = y)))) w := by
  rw [← tok_beq]; exact run_neq_agg eqTok rfl
theorem e_tok {xo yo : Operand} {x y : Lx.Tok} : DoX Tryz.prog (mEq .eql 41 xo yo (tokV x) (tokV y)) w PK K = K (.bool (decide (x = y))) w := by
  refine do_eq ?_
  rw [← tok_beq]; exact run_eql_agg eqTok rfl
theorem n_tok {xo yo : Operand} {x y : Lx.Tok} : DoX Tryz.prog (mEq .neq 41 xo yo (tokV x) (tokV y)) w PK K = K (.bool (!decide (x = y))) w := do_eq r_tokne
theorem e_flt {xo yo : Operand} {x y : Int × Int} : DoX Tryz.prog (mEq .eql 36 xo yo (fltV x) (fltV y)) w PK K = K (.bool (decide (x = y))) w := by
  refine do_eq ?_
  rw [← flt_beq]; exact run_eql_agg eqFlt rfl
end
end Go.Proofs.YtihjejmmldpelaaGreatDoor
/- Contracts of foliantref03: Upto, All, Same. -/
namespace Go.Proofs.YtihjejmmldpelaaGreatDoor
set_option linter.unusedVariables false
set_option linter.unusedSimpArgs false
set_option linter.defProp false
open Eng Go.RowKit

theorem rupto_ret (s : List UInt8) (i n : Int) (w : World) (hs : s.length ≤ 1099511627776) : Ret Tryz.prog 43 #[.string ⟨s.toArray⟩, .int .i64 i, .int .i64 n] w
    (fun r w' => ∃ v, r = .tuple #[v, fltV (uptoP s i n).2] ∧ Own w w' [TRow v (uptoP s i n).1]) := by
  refine ret_of fun K hK => S_foliantref03_Upto_ok ?_
  unfold S_foliantref03_Upto
  have ho := (Own.start w).nilRow 41 5
  refine o_flt ho fun b7 w2 ho => ?_
  have ho : Own w w2 [fltE b7 (0, 0), TRow (.slice none 0 0) []] := ho
  have early : ∀ (f : Int × Int) (W : World) (v : Value) (l : List Lx.Tok), Own w W [fltE b7 (0, 0), TRow v l] → uptoP s i n = ([], f) → DoX Tryz.prog (mStore 36 (.pointer (some ⟨b7, 0, none⟩)) (fltV f)) W (pk K) fun _ w =>
      RetX Tryz.prog [.val (.slice none 0 0), .cell (.pointer (some ⟨b7, 0, none⟩)) 36] w K := by
    intro f W v l ho hf
    refine flt_put (g := f) 0 ho rfl fun w3 ho => ?_
    refine ret_v2 rv_val (rv_cell (ho.agg 0 rfl aggFlt)) (hK _ _ ⟨.slice none 0 0, by rw [hf]; rfl, ?_⟩)
    rw [hf]
    exact (ho.sub (List.nil_sublist _)).nilRow _ 5
  by_cases h1 : i < 0
  · simp only [rs, h1, decide_true, g_un, m_flt1]
    exact early _ _ _ _ ho (by rw [uptoP, if_pos (.inl h1)])
  simp only [rs, h1, decide_false, s_len Tryz.underlying9]
  by_cases h2 : (s.length : Int) < i
  · simp only [rs, h2, decide_true, m_flt1]
    exact early _ _ _ _ ho (by rw [uptoP, if_pos (.inr h2)])
  simp only [rs, h2, decide_false]
  have hP : uptoP s i n = match Lx.upto s n.toNat i with | .inl l => (l, (0, 0)) | .inr f => ([], f) := by rw [uptoP, if_neg (by omega)]; try rfl
  refine join fun J hJ => ?_
  have done : ∀ (d v : Value) (l : List Lx.Tok) (W : World), Own w W [fltE b7 (0, 0), TRow v l] → uptoP s i n = (l, (0, 0)) → J [d, v] W := by
    intro d v l W ho hf
    refine hJ _ _ fun _ => ?_
    simp only [S_foliantref03_Upto_1, gd, m_flt0]
    refine flt_put (g := (0, 0)) 0 ho rfl fun w3 ho => ?_
    refine ret_v2 rv_val (rv_cell (ho.agg 0 rfl aggFlt)) (hK _ _ ⟨v, by rw [hf]; rfl, ?_⟩)
    rw [hf]
    exact ho.tail
  refine loop (fun vs w' => ∃ (l : List Lx.Tok) (b : Int) (v d : Value), vs = [.int .i64 b, d, v] ∧ Lx.Steps s i l b ∧ i + l.length ≤ b ∧ (l.length : Int) ≤ max n 0 ∧ Own w w' [fltE b7 (0, 0), TRow v l])
    (fun vs _ => (s.length - intOf (vs.getD 0 undef)).toNat) ⟨[], i, _, _, rfl, Lx.Steps.nil s i, by simp, by simp; omega, ho⟩ ?_
  rintro vs W ⟨l, b, v, d, rfl, hst, hil, hln, ho⟩ _
  simp only [S_foliantref03_Upto_0, gd, sl_len Tryz.underlying34 (trow_sl 1 ho rfl), rs]
  by_cases hlt : (l.length : Int) < n
  · simp only [hlt, decide_true, i_t]
    refine c_below ho (rnext_ret s b W hs) ?_
    rintro _ W2 rfl ho
    simp only [tokR, ex]
    refine o_tok ho fun b9 W3 ho => ?_
    refine o_put 0 ho rfl (new := tokC (Lx.next s b).1) szTok (tokC_one _) rfl fun W4 ho => ?_
    have ho : Own w W4 [tokE b9 (Lx.next s b).1, fltE b7 (0, 0), TRow v l] := ho
    simp only [rs]
    by_cases he : (Lx.next s b).2 ≠ 0
    · simp only [decide_eq_true he, i_t]
      refine c_eq (rskip_ret s b W4 hs) ?_
      rw [m_flt2]
      exact early _ _ _ _ ho.tail (by rw [hP, upto_err hst (by omega) he])
    have he0 : (Lx.next s b).2 = 0 := by omega
    simp only [decide_eq_false he, i_f, fa_t0]
    rw [l_cell nInt (ho.cell 0 rfl 0 rfl)]
    simp only [rs]
    by_cases hk : (Lx.next s b).1.k = 0
    · simp only [hk, decide_true, i_t]
      exact done _ _ _ _ ho.tail (by rw [hP, upto_end hst (by omega) he0 hk])
    simp only [hk, decide_false, i_f]
    have hbd := Lx.next_bd he0 hk
    rw [l_at (ho.agg 0 rfl aggTok)]
    refine o_appT (x := (Lx.next s b).1) 2 ho rfl (by omega) fun v' W5 ho => ?_
    rw [fa_t2, l_cell nInt (ho.cell 0 rfl 2 rfl)]
    have hge := Lx.skip_ge s b.toNat
    exact nextX ⟨_, _, v', _, rfl, hst.snoc he0 hk, by rw [List.length_append, List.length_singleton]; omega, by rw [List.length_append, List.length_singleton]; omega, ho.tail⟩ (by simp only [gd, intOf]; omega)
  · simp only [hlt, decide_false, i_f]
    refine done _ _ _ _ ho ?_
    rw [hP, show n.toNat = l.length by omega, upto_full hst]
end Go.Proofs.YtihjejmmldpelaaGreatDoor
/- Contracts of foliantref03: All, Same. -/
namespace Go.Proofs.YtihjejmmldpelaaGreatDoor
set_option linter.unusedVariables false
set_option linter.unusedSimpArgs false
set_option linter.defProp false
open Eng Go.RowKit

theorem flat_get : ∀ (l : List Lx.Tok) (k j : Nat) (hk : k < l.length), j < 5 → (l.flatMap tokC)[k * 5 + j]? = (tokC l[k])[j]?
  | x :: l, 0, j, _, hj => by
    rw [List.flatMap_cons, List.getElem?_append_left (by simpa [tokC] using hj)]; simp
  | x :: l, k + 1, j, hk, hj => by
    have h5 : (tokC x).length = 5 := rfl
    rw [List.flatMap_cons, List.getElem?_append_right (by rw [h5]; omega), h5, show (k + 1) * 5 + j - 5 = k * 5 + j by omega]
    rw [flat_get l k j (by simpa using hk) hj]; simp
/-- The k-th token of a slice. -/
theorem tok_at {w : World} {b off : Nat} {l : List Lx.Tok} (hc : ∀ j u, (l.flatMap tokC)[j]? = some u → w.cell? ⟨b, off + j, none⟩ = some u) {k : Nat} (hk : k < l.length) : AtV Tryz.prog w 41 ⟨b, off + k * 5, none⟩ (tokV l[k]) :=
  AtV.agg aggTok (cs := tokC l[k]) rfl fun j v hj => by
    have h5 : j < 5 := (List.getElem?_eq_some_iff.1 hj).1
    have := hc (k * 5 + j) v (by rw [flat_get l k j hk h5]; exact hj)
    rwa [Nat.add_assoc]
theorem upto_pos (s : List UInt8) : ∀ (m : Nat) (a : Int) (f : Int × Int), Lx.upto s m a = .inr f → f.2 ≠ 0
  | 0, a, f, h => by rw [Lx.upto] at h; cases h
  | m + 1, a, f, h => by
    rw [Lx.upto] at h
    split at h
    · rename_i he; cases h; exact he
    · split at h
      · cases h
      · cases hu : Lx.upto s m (Lx.next s a).1.t with
        | inl l => rw [hu] at h; cases h
        | inr g => rw [hu] at h; cases h; exact upto_pos s m _ f hu
theorem rall_ret (s : List UInt8) (w : World) (hs : s.length ≤ 1099511627776) : Ret Tryz.prog 15 #[.string ⟨s.toArray⟩] w
    (fun r w' => ∃ v, r = .tuple #[v, fltV (allP s).2] ∧ Own w w' [TRow v (allP s).1]) := by
  refine ret_of fun K hK => S_foliantref03_All_ok ?_
  unfold S_foliantref03_All
  refine o_flt (Own.start w) fun b3 w1 ho => ?_
  refine c_ret (rupto_ret s 0 1048577 w1 hs) ?_
  rintro _ w2 ⟨v, rfl, hn⟩
  have ho := ho.join hn
  simp only [ex]
  refine o_flt ho fun b5 w3 ho => ?_
  refine flt_put (g := (uptoP s 0 1048577).2) 0 ho rfl fun w4 ho => ?_
  have ho : Own w w4 [fltE b5 (uptoP s 0 1048577).2, TRow v (uptoP s 0 1048577).1, fltE b3 (0, 0)] := ho
  have hU : uptoP s 0 1048577 = match Lx.upto s 1048577 0 with | .inl l => (l, (0, 0)) | .inr f => ([], f) := by
    rw [uptoP, if_neg (by omega)]; try rfl
  have hA : allP s = if (uptoP s 0 1048577).2.2 = 0 ∧ 1048576 < (uptoP s 0 1048577).1.length then ([], (((uptoP s 0 1048577).1.getD 1048576 Lx.none_).a, 6)) else uptoP s 0 1048577 := by
    rw [hU, allP]
    cases hh : Lx.upto s 1048577 0 with
    | inl l =>
      simp only
      by_cases h : 1048576 < l.length
      · rw [if_pos h, if_pos ⟨trivial, h⟩]
      · rw [if_neg h, if_neg (fun x => h x.2)]
    | inr f =>
      simp only
      rw [if_neg (fun x => upto_pos s _ _ f hh x.1)]
  generalize uptoP s 0 1048577 = u at *
  rw [fa_f1, l_cell nErr (ho.cell 0 rfl 1 rfl)]
  have other : ¬ (u.2.2 = 0 ∧ 1048576 < u.1.length) → QuietX w4 (fun C2 =>
      QDo Tryz.prog C2 (mLoad 36 (.pointer (some ⟨b5, 0, none⟩))) fun t25 =>
      ∀ w, C2 w →
      DoX Tryz.prog (mStore 36 (.pointer (some ⟨b3, 0, none⟩)) t25) w (pk K) fun _ w =>
      RetX Tryz.prog [.val v, .cell (.pointer (some ⟨b3, 0, none⟩)) 36] w K) := by
    intro hn
    rw [if_neg hn] at hA
    refine quiet (q_at _ (fun _ hb => run_load_at ((ho.grow hb).agg 0 rfl aggFlt)) ?_)
    intro w5 hb
    refine flt_put (g := u.2) 2 (ho.grow hb) rfl fun w6 ho => ?_
    refine ret_v2 rv_val (rv_cell (ho.agg 2 rfl aggFlt)) (hK _ _ ⟨v, by rw [hA]; rfl, ?_⟩)
    rw [hA]
    exact ho.tail.sub (.cons_cons _ (.cons _ (List.Sublist.refl _)))
  by_cases h0 : u.2.2 = 0
  · simp only [rs, h0, decide_true, sl_len Tryz.underlying34 (trow_sl 1 ho rfl)]
    by_cases hbig : (1048576 : Int) < (u.1.length : Int)
    · simp only [hbig, decide_true, rs]
      rw [if_pos ⟨h0, by omega⟩] at hA
      have hk : 1048576 < u.1.length := by omega
      obtain ⟨ba, oa, ca, rfl, hca⟩ := sl_open (trow_sl 1 ho rfl) (by omega)
      refine quiet (q_do _ (fun _ => run_ia Tryz.underlying34 (show _ = some 5 by kernel_rfl) (by omega) (by omega)) ?_)
      refine q_do _ (fun _ => run_fa (show fOff Tryz.prog 41 1 = some 1 by kernel_rfl)) ?_
      refine q_at (.int .i64 (u.1[1048576]).a) (fun wc hw => run_load_cell nInt ?_) ?_
      · obtain ⟨b', o', c', he, hc'⟩ := sl_open (trow_sl 1 (ho.grow hw) rfl) (by omega)
        injection he with he _ _
        injection he with he
        injection he with e1 e2 _
        subst e1; subst e2
        have := hc' (1048576 * 5 + 1) (.int .i64 (u.1[1048576]).a) (by rw [flat_get u.1 1048576 1 hk (by omega)]; rfl)
        rw [← this]; rfl
      refine q_do _ (fun _ => r_flt2) ?_
      intro w5 hb
      refine flt_put (g := ((u.1[1048576]).a, 6)) 2 (ho.grow hb) rfl fun w6 ho => ?_
      have hg : u.1.getD 1048576 Lx.none_ = u.1[1048576] := by rw [List.getD_eq_getElem?_getD, List.getElem?_eq_getElem hk]; rfl
      rw [hg] at hA
      refine ret_v2 rv_val (rv_cell (ho.agg 2 rfl aggFlt)) (hK _ _ ⟨.slice none 0 0, by rw [hA]; rfl, ?_⟩)
      rw [hA]
      exact (ho.sub (List.nil_sublist _)).nilRow _ 5
    · simp only [hbig, decide_false, rs]
      exact other fun x => hbig (by omega)
  · simp only [rs, h0, decide_false, g_un]
    exact other fun x => h0 x.1
end Go.Proofs.YtihjejmmldpelaaGreatDoor
/- The samples of layer 3's laws. -/
namespace Go.Proofs.YtihjejmmldpelaaGreatDoor
set_option linter.unusedVariables false
set_option linter.unusedSimpArgs false
set_option linter.defProp false
open Eng Go.RowKit

theorem smp_all1 : allP [47, 65, 35, 50, 48, 98, 40, 120, 92, 48, 53, 49, 41, 60, 52, 62] = ([⟨4, 0, 6, 0, [65, 32, 98]⟩, ⟨3, 6, 13, 0, [120, 41]⟩, ⟨3, 13, 16, 0, [64]⟩], (0, 0)) := by
  have h : Lx.upto [47, 65, 35, 50, 48, 98, 40, 120, 92, 48, 53, 49, 41, 60, 52, 62] (3 + 1048574) 0 = .inl [⟨4, 0, 6, 0, [65, 32, 98]⟩, ⟨3, 6, 13, 0, [120, 41]⟩, ⟨3, 13, 16, 0, [64]⟩] := by
    have n1 : Lx.next [47, 65, 35, 50, 48, 98, 40, 120, 92, 48, 53, 49, 41, 60, 52, 62] 0 = (⟨4, 0, 6, 0, [65, 32, 98]⟩, 0) := by decide +kernel
    have n2 : Lx.next [47, 65, 35, 50, 48, 98, 40, 120, 92, 48, 53, 49, 41, 60, 52, 62] 6 = (⟨3, 6, 13, 0, [120, 41]⟩, 0) := by decide +kernel
    have n3 : Lx.next [47, 65, 35, 50, 48, 98, 40, 120, 92, 48, 53, 49, 41, 60, 52, 62] 13 = (⟨3, 13, 16, 0, [64]⟩, 0) := by decide +kernel
    have n4 : Lx.next [47, 65, 35, 50, 48, 98, 40, 120, 92, 48, 53, 49, 41, 60, 52, 62] 16 = (⟨0, 16, 16, 0, []⟩, 0) := by decide +kernel
    have s1 := (Lx.Steps.nil [47, 65, 35, 50, 48, 98, 40, 120, 92, 48, 53, 49, 41, 60, 52, 62] 0).snoc (by rw [n1]) (by rw [n1]; decide)
    rw [n1] at s1
    have s2 := s1.snoc (by rw [n2]) (by rw [n2]; decide)
    rw [n2] at s2
    have s3 := s2.snoc (by rw [n3]) (by rw [n3]; decide)
    rw [n3] at s3
    exact upto_end s3 (by simp) (by rw [n4]) (by rw [n4])
  rw [allP, show 1048577 = 3 + 1048574 from rfl, h]
  rfl
theorem smp_all2 : allP [97, 32, 41] = ([], (2, 3)) := by
  have n1 : Lx.next [97, 32, 41] 0 = (⟨5, 0, 1, 0, [97]⟩, 0) := by decide +kernel
  have n2 : Lx.next [97, 32, 41] 1 = (Lx.none_, 3) := by decide +kernel
  have s1 := (Lx.Steps.nil [97, 32, 41] 0).snoc (by rw [n1]) (by rw [n1]; decide)
  rw [n1] at s1
  rw [allP, upto_err s1 (by simp) (by rw [n2]; decide), n2]
  rfl
theorem smp1 : Lx.next [55, 46] 0 = (⟨2, 0, 2, 70000, []⟩, 0) := by decide +kernel
theorem smp2 : Lx.next [32, 55, 120] 0 = (⟨5, 1, 3, 0, [55, 120]⟩, 0) := by decide +kernel
theorem smp3 : Lx.next [45, 48] 0 = (⟨1, 0, 2, 0, []⟩, 0) := by decide +kernel
theorem smp4 : Lx.next [41] 0 = (Lx.none_, 3) := by decide +kernel
theorem smp5 : Lx.next [40, 97] 0 = (Lx.none_, 4) := by decide +kernel
end Go.Proofs.YtihjejmmldpelaaGreatDoor
/- Code in continuation form, by program (gen.py): 6 functions. -/
namespace Go.Proofs.YtihjejmmldpelaaGreatDoor
set_option linter.unusedVariables false
set_option linter.unusedSimpArgs false
set_option linter.defProp false
set_option linter.unusedVariables false
set_option maxRecDepth 20000
open Eng

/- foliantlaw03.lives -/
def S_foliantlaw03_lives (w : World) (K : Ending → World → Prop) : Prop :=
 CallX Tryz.prog 26 #[(.string ⟨#[47, 65, 35, 50, 48, 98, 40, 120, 92, 48, 53, 49, 41, 60, 52, 62]⟩)] w (pk K) fun t16 w =>
 DoX Tryz.prog (mExt t16 0) w (pk K) fun t17 w =>
 DoX Tryz.prog (mExt t16 1) w (pk K) fun t18 w =>
 DoX Tryz.prog (mAlloc 36) w (pk K) fun t2 w =>
 DoX Tryz.prog (mStore 36 t2 t18) w (pk K) fun _ w =>
 CallX Tryz.prog 24 #[(.string ⟨#[55, 46]⟩), (.int .i64 0)] w (pk K) fun t20 w =>
 DoX Tryz.prog (mExt t20 0) w (pk K) fun t21 w =>
 DoX Tryz.prog (mExt t20 1) w (pk K) fun t22 w =>
 DoX Tryz.prog (mAlloc 41) w (pk K) fun t3 w =>
 DoX Tryz.prog (mStore 41 t3 t21) w (pk K) fun _ w =>
 CallX Tryz.prog 24 #[(.string ⟨#[32, 55, 120]⟩), (.int .i64 0)] w (pk K) fun t24 w =>
 DoX Tryz.prog (mExt t24 0) w (pk K) fun t25 w =>
 DoX Tryz.prog (mExt t24 1) w (pk K) fun t26 w =>
 DoX Tryz.prog (mAlloc 41) w (pk K) fun t5 w =>
 DoX Tryz.prog (mStore 41 t5 t25) w (pk K) fun _ w =>
 CallX Tryz.prog 24 #[(.string ⟨#[45, 48]⟩), (.int .i64 0)] w (pk K) fun t28 w =>
 DoX Tryz.prog (mExt t28 0) w (pk K) fun t29 w =>
 DoX Tryz.prog (mExt t28 1) w (pk K) fun t30 w =>
 DoX Tryz.prog (mAlloc 41) w (pk K) fun t7 w =>
 DoX Tryz.prog (mStore 41 t7 t29) w (pk K) fun _ w =>
 CallX Tryz.prog 24 #[(.string ⟨#[41]⟩), (.int .i64 0)] w (pk K) fun t32 w =>
 DoX Tryz.prog (mExt t32 0) w (pk K) fun t33 w =>
 DoX Tryz.prog (mExt t32 1) w (pk K) fun t34 w =>
 DoX Tryz.prog (mAlloc 41) w (pk K) fun t9 w =>
 DoX Tryz.prog (mStore 41 t9 t33) w (pk K) fun _ w =>
 CallX Tryz.prog 24 #[(.string ⟨#[40, 97]⟩), (.int .i64 0)] w (pk K) fun t36 w =>
 DoX Tryz.prog (mExt t36 0) w (pk K) fun t37 w =>
 DoX Tryz.prog (mExt t36 1) w (pk K) fun t38 w =>
 DoX Tryz.prog (mAlloc 41) w (pk K) fun t11 w =>
 DoX Tryz.prog (mStore 41 t11 t37) w (pk K) fun _ w =>
 CallX Tryz.prog 26 #[(.string ⟨#[97, 32, 41]⟩)] w (pk K) fun t40 w =>
 DoX Tryz.prog (mExt t40 0) w (pk K) fun t41 w =>
 DoX Tryz.prog (mExt t40 1) w (pk K) fun t42 w =>
 DoX Tryz.prog (mAlloc 36) w (pk K) fun t14 w =>
 DoX Tryz.prog (mStore 36 t14 t42) w (pk K) fun _ w =>
 DoX Tryz.prog (mFA 36 t2 1) w (pk K) fun t43 w =>
 DoX Tryz.prog (mLoad 28 t43) w (pk K) fun t44 w =>
 DoX Tryz.prog (mEq .neq 28 (.tmp 44) (.const (.int .i64 0)) t44 (.int .i64 0)) w (pk K) fun t45 w =>
 GDo t45 false (fun E => E t17 w) w fun t47 w =>
 GDo t45 false (fun E => DoX Tryz.prog (mB .len #[34] 3 #[false] #[t47]) w (pk K) E) w fun t48 w =>
 GDo t45 false (fun E => DoX Tryz.prog (mEq .neq 3 (.tmp 48) (.const (.int .i64 3)) t48 (.int .i64 3)) w (pk K) E) w fun t49 w =>
 DoX Tryz.prog (mPick t45 (.bool true) t49) w (pk K) fun t50 w =>
 GDo t50 false (fun E => E t17 w) w fun t52 w =>
 GDo t50 false (fun E => DoX Tryz.prog (mIA 34 t52 (.int .i64 0)) w (pk K) E) w fun t53 w =>
 GDo t50 false (fun E => DoX Tryz.prog (mLoad 41 t53) w (pk K) E) w fun t54 w =>
 GDo t50 false (fun E => DoX Tryz.prog (mBuild 41 #[(0, (.int .i64 4)), (2, (.int .i64 6)), (4, (.string ⟨#[65, 32, 98]⟩))]) w (pk K) E) w fun t55 w =>
 GDo t50 false (fun E => DoX Tryz.prog (mEq .neq 41 (.tmp 54) (.tmp 55) t54 t55) w (pk K) E) w fun t56 w =>
 DoX Tryz.prog (mPick t50 (.bool true) t56) w (pk K) fun t57 w =>
 GDo t57 false (fun E => E t17 w) w fun t59 w =>
 GDo t57 false (fun E => DoX Tryz.prog (mIA 34 t59 (.int .i64 1)) w (pk K) E) w fun t60 w =>
 GDo t57 false (fun E => DoX Tryz.prog (mLoad 41 t60) w (pk K) E) w fun t61 w =>
 GDo t57 false (fun E => DoX Tryz.prog (mBuild 41 #[(0, (.int .i64 3)), (1, (.int .i64 6)), (2, (.int .i64 13)), (4, (.string ⟨#[120, 41]⟩))]) w (pk K) E) w fun t62 w =>
 GDo t57 false (fun E => DoX Tryz.prog (mEq .neq 41 (.tmp 61) (.tmp 62) t61 t62) w (pk K) E) w fun t63 w =>
 DoX Tryz.prog (mPick t57 (.bool true) t63) w (pk K) fun t64 w =>
 GDo t64 false (fun E => E t17 w) w fun t66 w =>
 GDo t64 false (fun E => DoX Tryz.prog (mIA 34 t66 (.int .i64 2)) w (pk K) E) w fun t67 w =>
 GDo t64 false (fun E => DoX Tryz.prog (mLoad 41 t67) w (pk K) E) w fun t68 w =>
 GDo t64 false (fun E => DoX Tryz.prog (mBuild 41 #[(0, (.int .i64 3)), (1, (.int .i64 13)), (2, (.int .i64 16)), (4, (.string ⟨#[64]⟩))]) w (pk K) E) w fun t69 w =>
 GDo t64 false (fun E => DoX Tryz.prog (mEq .neq 41 (.tmp 68) (.tmp 69) t68 t69) w (pk K) E) w fun t70 w =>
 DoX Tryz.prog (mPick t64 (.bool true) t70) w (pk K) fun t71 w =>
 IfX t71 (K (.returned (.bool false)) w) (DoX Tryz.prog (mLoad 41 t3) w (pk K) fun t72 w =>
 DoX Tryz.prog (mBuild 41 #[(0, (.int .i64 2)), (2, (.int .i64 2)), (3, (.int .i64 70000))]) w (pk K) fun t73 w =>
 DoX Tryz.prog (mEq .eql 41 (.tmp 72) (.tmp 73) t72 t73) w (pk K) fun t74 w =>
 GDo t74 true (fun E => E t22 w) w fun t76 w =>
 GDo t74 true (fun E => DoX Tryz.prog (mEq .eql 28 (.tmp 76) (.const (.int .i64 0)) t76 (.int .i64 0)) w (pk K) E) w fun t77 w =>
 DoX Tryz.prog (mPick t74 t77 (.bool false)) w (pk K) fun t78 w =>
 GDo t78 true (fun E => DoX Tryz.prog (mLoad 41 t5) w (pk K) E) w fun t80 w =>
 GDo t78 true (fun E => DoX Tryz.prog (mBuild 41 #[(0, (.int .i64 5)), (1, (.int .i64 1)), (2, (.int .i64 3)), (4, (.string ⟨#[55, 120]⟩))]) w (pk K) E) w fun t81 w =>
 GDo t78 true (fun E => DoX Tryz.prog (mEq .eql 41 (.tmp 80) (.tmp 81) t80 t81) w (pk K) E) w fun t82 w =>
 DoX Tryz.prog (mPick t78 t82 (.bool false)) w (pk K) fun t83 w =>
 GDo t83 true (fun E => E t26 w) w fun t85 w =>
 GDo t83 true (fun E => DoX Tryz.prog (mEq .eql 28 (.tmp 85) (.const (.int .i64 0)) t85 (.int .i64 0)) w (pk K) E) w fun t86 w =>
 DoX Tryz.prog (mPick t83 t86 (.bool false)) w (pk K) fun t87 w =>
 GDo t87 true (fun E => DoX Tryz.prog (mLoad 41 t7) w (pk K) E) w fun t89 w =>
 GDo t87 true (fun E => DoX Tryz.prog (mBuild 41 #[(0, (.int .i64 1)), (2, (.int .i64 2))]) w (pk K) E) w fun t90 w =>
 GDo t87 true (fun E => DoX Tryz.prog (mEq .eql 41 (.tmp 89) (.tmp 90) t89 t90) w (pk K) E) w fun t91 w =>
 DoX Tryz.prog (mPick t87 t91 (.bool false)) w (pk K) fun t92 w =>
 GDo t92 true (fun E => E t30 w) w fun t94 w =>
 GDo t92 true (fun E => DoX Tryz.prog (mEq .eql 28 (.tmp 94) (.const (.int .i64 0)) t94 (.int .i64 0)) w (pk K) E) w fun t95 w =>
 DoX Tryz.prog (mPick t92 t95 (.bool false)) w (pk K) fun t96 w =>
 GDo t96 true (fun E => E t34 w) w fun t98 w =>
 GDo t96 true (fun E => DoX Tryz.prog (mEq .eql 28 (.tmp 98) (.const (.int .i64 3)) t98 (.int .i64 3)) w (pk K) E) w fun t99 w =>
 DoX Tryz.prog (mPick t96 t99 (.bool false)) w (pk K) fun t100 w =>
 GDo t100 true (fun E => E t38 w) w fun t102 w =>
 GDo t100 true (fun E => DoX Tryz.prog (mEq .eql 28 (.tmp 102) (.const (.int .i64 4)) t102 (.int .i64 4)) w (pk K) E) w fun t103 w =>
 DoX Tryz.prog (mPick t100 t103 (.bool false)) w (pk K) fun t104 w =>
 GDo t104 true (fun E => DoX Tryz.prog (mLoad 36 t14) w (pk K) E) w fun t106 w =>
 GDo t104 true (fun E => DoX Tryz.prog (mBuild 36 #[(0, (.int .i64 2)), (1, (.int .i64 3))]) w (pk K) E) w fun t107 w =>
 GDo t104 true (fun E => DoX Tryz.prog (mEq .eql 36 (.tmp 106) (.tmp 107) t106 t107) w (pk K) E) w fun t108 w =>
 DoX Tryz.prog (mPick t104 t108 (.bool false)) w (pk K) fun t109 w =>
 K (.returned t109) w)
/- foliantlaw03.LexNext -/
/- foliantlaw03.LexAll -/
/- foliantlaw03.LexApart -/
/- foliantlaw03.LexNumbers -/
/- foliantlaw03.LexStrings -/
def S_foliantlaw03_LexStrings_1 (t6 t8 : Value) (w : World) (N1 : List Value → World → Prop) (K : Ending → World → Prop) : Prop :=
 DoX Tryz.prog (mBin .add 3 t8 (.int .i64 1)) w (pk K) fun t25 w =>
 N1 [t6, t25] w
end Go.Proofs.YtihjejmmldpelaaGreatDoor
/- foliantlaw03.lives, LexNext. -/
namespace Go.Proofs.YtihjejmmldpelaaGreatDoor
set_option linter.unusedVariables false
set_option linter.unusedSimpArgs false
set_option linter.defProp false
open Eng Go.RowKit

section
variable {w : World} {PK : List PanicEntry → World → Prop} {K : Value → World → Prop}
theorem m_tok024 {k t : Int} {s : List UInt8} : DoX Tryz.prog (mBuild 41 #[(0, .int .i64 k), (2, .int .i64 t), (4, .string ⟨s.toArray⟩)]) w PK K = K (tokV ⟨k, 0, t, 0, s⟩) w := do_eq (by kernel_rfl)
theorem m_tok023 {k t n : Int} : DoX Tryz.prog (mBuild 41 #[(0, .int .i64 k), (2, .int .i64 t), (3, .int .i64 n)]) w PK K = K (tokV ⟨k, 0, t, n, []⟩) w := do_eq (by kernel_rfl)
theorem m_tok02 {k t : Int} : DoX Tryz.prog (mBuild 41 #[(0, .int .i64 k), (2, .int .i64 t)]) w PK K = K (tokV ⟨k, 0, t, 0, []⟩) w := do_eq (by kernel_rfl)
/-- A token in a new variable, and the error. -/
theorem tok_new {w0 : World} {L : List Ent} {f : Nat} {args : Array Value} {r x : Lx.Tok × Int} {PK1 PK2 PK3 PK4 PK5 : List PanicEntry → World → Prop} {K : Value → Value → World → Prop} (ho : Own w0 w L) (h : Ret Tryz.prog f args w (fun v w' => v = tokR r ∧ Below w.heap.size w w')) (hx : r = x)
    (k : ∀ b w', Own w0 w' (tokE b x.1 :: L) → K (.int .i64 x.2) (.pointer (some ⟨b, 0, none⟩)) w') :
    CallX Tryz.prog f args w PK1 fun t w => DoX Tryz.prog (mExt t 0) w PK2 fun u w => DoX Tryz.prog (mExt t 1) w PK3 fun e w => DoX Tryz.prog (mAlloc 41) w PK4 fun p w => DoX Tryz.prog (mStore 41 p u) w PK5 fun _ w => K e p w := by
  subst hx
  refine c_below ho h ?_
  rintro _ w' rfl ho
  simp only [tokR, ex]
  refine o_tok ho fun b w1 ho => ?_
  exact o_put 0 ho rfl (new := tokC r.1) szTok (tokC_one _) rfl fun w2 ho => k b w2 ho
end
end Go.Proofs.YtihjejmmldpelaaGreatDoor
/- foliantlaw03.LexNext, LexAll. -/
namespace Go.Proofs.YtihjejmmldpelaaGreatDoor
set_option linter.unusedVariables false
set_option linter.unusedSimpArgs false
set_option linter.defProp false
open Eng Go.RowKit

theorem trow_len {w0 w : World} {L : List Ent} {v : Value} {l : List Lx.Tok} (i : Nat) (ho : Own w0 w L) (hi : L[i]? = some (TRow v l)) : Sl w v 5 l.length (l.flatMap tokC) := trow_sl i ho hi
theorem upto_len (s : List UInt8) : ∀ (m : Nat) (a : Int) (l : List Lx.Tok), Lx.upto s m a = .inl l → l.length ≤ m
  | 0, a, l, h => by rw [Lx.upto] at h; cases h; simp
  | m + 1, a, l, h => by
    rw [Lx.upto] at h
    split at h
    · cases h
    · split at h
      · cases h; simp
      · cases hu : Lx.upto s m (Lx.next s a).1.t with
        | inl r => rw [hu] at h; cases h; have := upto_len s m _ r hu; simp; omega
        | inr g => rw [hu] at h; cases h
end Go.Proofs.YtihjejmmldpelaaGreatDoor
/- Plain mathematics of layer 3: a token cut alone is the same token. -/
namespace Go.Proofs.YtihjejmmldpelaaGreatDoor
set_option linter.unusedVariables false
set_option linter.unusedSimpArgs false
set_option linter.defProp false
open Go
namespace Lx
open Oc
theorem head_take {t : List UInt8} {n : Nat} (h : 1 ≤ n) : (t.take n).head? = t.head? := by
  cases t with
  | nil => simp
  | cons c t => obtain ⟨m, rfl⟩ : ∃ m, n = m + 1 := ⟨n - 1, by omega⟩; rfl
theorem take_cons {c : UInt8} {t : List UInt8} {n : Nat} (h : 1 ≤ n) : (c :: t).take n = c :: t.take (n - 1) := by
  obtain ⟨m, rfl⟩ : ∃ m, n = m + 1 := ⟨n - 1, by omega⟩; rfl
theorem lineF_take {c : UInt8} {t : List UInt8} {n : Nat} (he : eol c = true) (h : 1 ≤ n) : lineF (c :: t.take n) = lineF (c :: t) := by
  simp only [lineF, head_take h]
  by_cases h1 : c = 10
  · simp [h1]
  · by_cases h2 : c = 13
    · simp [h2]
    · simp [eol, h1, h2] at he
theorem octF_take : ∀ (m n : Nat) (l : List UInt8) (k : Nat), (octF m n l).2 + 1 ≤ k → octF m n (l.take k) = octF m n l
  | 0, n, l, k, h => by simp [octF]
  | m + 1, n, [], k, h => by simp
  | m + 1, n, c :: t, k, h => by
    have hk : 1 ≤ k := by omega
    rw [take_cons hk]
    simp only [octF] at h ⊢
    by_cases ho : oct c = true
    · rw [if_pos ho] at h ⊢
      rw [if_pos ho]
      simp only at h
      rw [octF_take m _ t (k - 1) (by omega)]
    · rw [if_neg ho, if_neg ho]
theorem escF_take {l : List UInt8} {k : Nat} (h : (escF l).2 + 1 ≤ k) : escF (l.take k) = escF l := by
  cases l with
  | nil => simp
  | cons c t =>
    have hk : 1 ≤ k := by omega
    rw [take_cons hk]
    simp only [escF] at h ⊢
    cases hl : escL c with
    | some b => rfl
    | none =>
      simp only [hl] at h ⊢
      by_cases he : eol c = true
      · rw [if_pos he] at h ⊢
        rw [if_pos he]
        have hp := lineF_pos c t
        simp only at h
        rw [lineF_take he (by omega)]
      · rw [if_neg he] at h ⊢
        rw [if_neg he]
        have h3 : (octF 3 0 (c :: t)).2 + 1 ≤ k := by
          by_cases h0 : 0 < (octF 3 0 (c :: t)).2
          · rw [if_pos h0] at h; exact h
          · omega
        have ht := octF_take 3 0 (c :: t) k h3
        rw [take_cons hk] at ht
        rw [ht]
theorem textG_ge : ∀ (l : List UInt8) (k o : Nat) (r : List UInt8 × Nat), textG k o l = some r → k + 1 ≤ r.2
  | [], k, o, r, h => by cases k <;> (rw [textG] at h; cases h)
  | c :: t, 0, o, r, h => by have := textG_le _ _ _ _ h; omega
  | c :: t, k + 1, o, r, h => by
    rw [textG] at h
    cases hh : textG k o t with
    | none => rw [hh] at h; cases h
    | some q => rw [hh] at h; cases h; have := textG_ge t k o q hh; simp; omega
theorem map_some {α β : Type} {f : α → β} {x : Option α} {r : β} (h : x.map f = some r) : ∃ q, x = some q ∧ r = f q := by
  cases x with
  | none => cases h
  | some q => cases h; exact ⟨q, rfl, rfl⟩
theorem textG_take : ∀ (l : List UInt8) (k o : Nat) (r : List UInt8 × Nat), textG k o l = some r → textG k o (l.take r.2) = some r
  | [], k, o, r, h => by cases k <;> (rw [textG] at h; cases h)
  | c :: t, k + 1, o, r, h => by
    rw [textG] at h
    obtain ⟨q, hq, rfl⟩ := map_some h
    rw [take_cons (by simp), textG]
    simp only [Nat.add_sub_cancel]
    rw [textG_take t k o q hq]; rfl
  | c :: t, 0, o, r, h => by
    have h1 := (textG_le _ _ _ _ h).1
    rw [take_cons h1]
    rw [textG] at h ⊢
    by_cases g1 : eol c = true
    · rw [if_pos g1] at h ⊢
      obtain ⟨q, hq, rfl⟩ := map_some h
      have h2 := textG_ge _ _ _ _ hq
      simp only [Nat.add_sub_cancel]
      rw [lineF_take g1 (by omega), textG_take t _ o q hq]; rfl
    · rw [if_neg g1] at h ⊢
      by_cases g2 : c = 92
      · rw [if_pos g2] at h ⊢
        by_cases g3 : t = []
        · rw [if_pos g3] at h; cases h
        · rw [if_neg g3] at h
          obtain ⟨q, hq, rfl⟩ := map_some h
          have h2 := textG_ge _ _ _ _ hq
          simp only [Nat.add_sub_cancel]
          rw [escF_take (by omega), textG_take t _ o q hq, if_neg]
          · rfl
          · intro e
            have := textG_le _ _ _ _ hq
            cases t with
            | nil => exact g3 rfl
            | cons d t => rw [take_cons (by omega)] at e; cases e
      · rw [if_neg g2] at h ⊢
        by_cases g4 : c = 40
        · rw [if_pos g4] at h ⊢
          obtain ⟨q, hq, rfl⟩ := map_some h
          simp only [Nat.add_sub_cancel]
          rw [textG_take t _ _ q hq]; rfl
        · rw [if_neg g4] at h ⊢
          by_cases g5 : c = 41
          · rw [if_pos g5] at h ⊢
            by_cases g6 : o ≤ 1
            · rw [if_pos g6] at h ⊢
              exact h
            · rw [if_neg g6] at h ⊢
              obtain ⟨q, hq, rfl⟩ := map_some h
              simp only [Nat.add_sub_cancel]
              rw [textG_take t _ _ q hq]; rfl
          · rw [if_neg g5] at h ⊢
            obtain ⟨q, hq, rfl⟩ := map_some h
            simp only [Nat.add_sub_cancel]
            rw [textG_take t _ _ q hq]; rfl
theorem hexF_take : ∀ (l : List UInt8) (h : Int) (r : List UInt8 × Nat), hexF h l = .inl r → hexF h (l.take r.2) = .inl r
  | [], _, r, h => by rw [hexF] at h; cases h
  | c :: t, h, r, he => by
    have h1 := (hexF_le _ _ _ he).1
    rw [take_cons h1]
    rw [hexF] at he ⊢
    have step : ∀ (h' : Int) (f : List UInt8 → List UInt8), (match hexF h' t with | .inl r => (Sum.inl (f r.1, r.2 + 1) : (List UInt8 × Nat) ⊕ Int) | .inr e => .inr e) = .inl r →
        (match hexF h' (t.take (r.2 - 1)) with | .inl r => (Sum.inl (f r.1, r.2 + 1) : (List UInt8 × Nat) ⊕ Int) | .inr e => .inr e) = .inl r := by
      intro h' f hh
      cases hq : hexF h' t with
      | inr e => rw [hq] at hh; cases hh
      | inl q =>
        rw [hq] at hh
        cases hh
        simp only [Nat.add_sub_cancel]
        rw [hexF_take t h' q hq]
    by_cases g1 : c = 62
    · rw [if_pos g1] at he ⊢; exact he
    · rw [if_neg g1] at he ⊢
      by_cases g2 : white c = true
      · rw [if_pos g2] at he ⊢
        exact step h (fun x => x) he
      · rw [if_neg g2] at he ⊢
        by_cases g3 : digit c < 0
        · rw [if_pos g3] at he; cases he
        · rw [if_neg g3] at he ⊢
          by_cases g4 : h < 0
          · rw [if_pos g4] at he ⊢
            exact step (digit c) (fun x => x) he
          · rw [if_neg g4] at he ⊢
            exact step (-1) (fun x => byte h (digit c) :: x) he
theorem runF_take : ∀ l : List UInt8, (l.take (runF l)).all regular = true ∧ runF (l.take (runF l)) = runF l
  | [] => by simp [runF]
  | c :: t => by
    obtain ⟨i1, i2⟩ := runF_take t
    simp only [runF]
    by_cases h : regular c = true
    · rw [if_pos h, take_cons (by omega), Nat.add_sub_cancel_left]
      simp only [runF, i2, List.all_cons, h, i1, Bool.and_self, if_true, and_self]
    · rw [if_neg h]; simp [runF]
theorem wordT_move {t : List UInt8} {a r : Int} (h : (wordT t a r).2 = 0) (b q : Int) : wordT t b q = ({ (wordT t a r).1 with a := b, t := q }, 0) := by
  unfold wordT at h ⊢
  by_cases h1 : intForm t = true
  · simp only [if_pos h1] at h ⊢
    by_cases h2 : (whole t).2 ≠ 0
    · rw [if_pos h2] at h; exact absurd h h2
    · simp only [if_neg h2]
  · simp only [if_neg h1] at h ⊢
    by_cases h2 : t.contains 46 ∧ (Fx.read t).2 = 0
    · simp only [if_pos h2]
    · simp only [if_neg h2] at h ⊢
      by_cases h3 : t.contains 46 ∧ (Fx.read t).2 = 2
      · rw [if_pos h3] at h; cases h
      · simp only [if_neg h3] at h ⊢
        unfold told at h ⊢
        by_cases h4 : (127 : Int) < t.length
        · rw [if_pos h4] at h; cases h
        · simp only [if_neg h4]
theorem cut_length {s : List UInt8} {i j : Nat} (h : j ≤ s.length) : (cut s i j).length = j - i := by
  unfold cut; rw [List.length_take, List.length_drop]; omega
theorem cut_cons {s : List UInt8} {a b : Nat} (ha : a < s.length) (h : a < b) : cut s a b = s[a] :: (s.drop (a + 1)).take (b - (a + 1)) := by
  unfold cut
  rw [drop_cons ha, take_cons (by omega), show b - a - 1 = b - (a + 1) by omega]
theorem cut_full (u : List UInt8) : cut u 0 u.length = u := by simp [cut]
/-- THE LOCALITY: the token at a, cut alone, is the same. -/
theorem token_cut {s : List UInt8} {a : Nat} (ha : a < s.length) (hsk : skipF false (s.drop a) = 0) (h : (token s a).2 = 0) :
    next (cut s a (token s a).1.t.toNat) 0 = ({ (token s a).1 with a := 0, t := (token s a).1.t - a }, 0) := by
  have hbd := token_bd ha hsk h
  have hd := drop_cons ha
  have hT : token s a = if s[a] = 91 ∨ s[a] = 93 ∨ s[a] = 123 ∨ s[a] = 125 then mark s a 1
    else if s[a] = 60 then (if (s.drop (a + 1)).head? = some s[a] then mark s a 2 else hex s a)
    else if s[a] = 62 then (if (s.drop (a + 1)).head? = some s[a] then mark s a 2 else refused 3)
    else if s[a] = 47 then name s a
    else if s[a] = 40 then text s a
    else if s[a] = 41 then refused 3
    else word s a := by rw [token, hd]
  rw [hd] at hsk
  obtain ⟨h37, hw⟩ := stop_head hsk
  obtain ⟨-, hA, hlt, hle⟩ := hbd
  have hc := cut_cons (b := (token s a).1.t.toNat) ha (by omega)
  have hN : ∀ u : List UInt8, u = cut s a (token s a).1.t.toNat → next u 0 = token u 0 := by
    intro u hu
    unfold next
    rw [if_neg (by omega), Int.toNat_zero]
    have : skip u 0 = 0 := by
      unfold skip
      rw [List.drop_zero, hu, hc, skipF, if_neg h37, if_neg (by rw [hw]; decide)]
    rw [this]
  rw [hN _ rfl]
  have hlen := cut_length (s := s) (i := a) (j := (token s a).1.t.toNat) (by omega)
  generalize hU : cut s a (token s a).1.t.toNat = u at *
  have hTu : token u 0 = if s[a] = 91 ∨ s[a] = 93 ∨ s[a] = 123 ∨ s[a] = 125 then mark u 0 1
    else if s[a] = 60 then (if ((s.drop (a + 1)).take ((token s a).1.t.toNat - (a + 1))).head? = some s[a] then mark u 0 2 else hex u 0)
    else if s[a] = 62 then (if ((s.drop (a + 1)).take ((token s a).1.t.toNat - (a + 1))).head? = some s[a] then mark u 0 2 else refused 3)
    else if s[a] = 47 then name u 0
    else if s[a] = 40 then text u 0
    else if s[a] = 41 then refused 3
    else word u 0 := by
      have : u.drop 0 = s[a] :: (s.drop (a + 1)).take ((token s a).1.t.toNat - (a + 1)) := by rw [List.drop_zero]; exact hc
      rw [token, this]
  have hu1 : u.drop 1 = (s.drop (a + 1)).take ((token s a).1.t.toNat - (a + 1)) := by rw [hc]; rfl
  have hmk : ∀ n : Nat, token s a = mark s a n → n = u.length ∧ mark u 0 n = ({ (mark s a n).1 with a := 0, t := (mark s a n).1.t - a }, 0) := by
    intro n hn
    rw [hn] at hlen hU
    have e : (mark s a n).1.t.toNat = a + n := by simp only [mark]; omega
    rw [e] at hlen hU
    have hl : n = u.length := by omega
    refine ⟨hl, ?_⟩
    simp only [mark, Nat.zero_add]
    rw [hU]
    have : cut u 0 n = u := by rw [hl]; exact cut_full u
    rw [this]
    simp only [Prod.mk.injEq, Tok.mk.injEq, and_true, true_and]
    omega
  have two : ∀ n : Nat, token s a = mark s a 2 → (s.drop (a + 1)).head? = some s[a] → ((s.drop (a + 1)).take ((token s a).1.t.toNat - (a + 1))).head? = some s[a] := by
    intro _ hn hh
    rw [hn, head_take, hh]
    simp only [mark]; omega
  rw [hTu]
  by_cases g0 : s[a] = 91 ∨ s[a] = 93 ∨ s[a] = 123 ∨ s[a] = 125
  · rw [if_pos g0]
    rw [if_pos g0] at hT
    rw [(hmk 1 hT).2, hT]
  rw [if_neg g0]
  rw [if_neg g0] at hT
  by_cases g1 : s[a] = 60
  · rw [if_pos g1]
    rw [if_pos g1] at hT
    by_cases g : (s.drop (a + 1)).head? = some s[a]
    · rw [if_pos g] at hT
      rw [if_pos (two 0 hT g), (hmk 2 hT).2, hT]
    · rw [if_neg g] at hT
      have hh := hT ▸ h
      unfold hex at hT hh
      cases hx : hexF (-1) (s.drop (a + 1)) with
      | inr e =>
        exfalso
        rw [hx] at hT
        simp only at hT
        rw [hT] at hlt
        simp only [refused, none_] at hlt
        omega
      | inl r =>
        rw [hx] at hT hh
        simp only at hT hh
        have h1 := hexF_le _ _ _ hx
        have ht := told_ok hh
        rw [ht] at hT
        have e : (token s a).1.t.toNat - (a + 1) = r.2 := by rw [hT]; simp only; omega
        rw [e] at hu1 ⊢
        rw [if_neg (by rw [head_take h1.1]; exact g)]
        unfold hex
        rw [Nat.zero_add, hu1, hexF_take _ _ _ hx]
        simp only
        unfold told at hh ⊢
        split at hh
        · cases hh
        · rename_i hl
          rw [if_neg hl, hT]
          simp only [Prod.mk.injEq, Tok.mk.injEq, and_true, true_and]
          omega
  rw [if_neg g1]
  rw [if_neg g1] at hT
  by_cases g2 : s[a] = 62
  · rw [if_pos g2]
    rw [if_pos g2] at hT
    by_cases g : (s.drop (a + 1)).head? = some s[a]
    · rw [if_pos g] at hT
      rw [if_pos (two 0 hT g), (hmk 2 hT).2, hT]
    · rw [if_neg g] at hT
      rw [hT] at h; cases h
  rw [if_neg g2]
  rw [if_neg g2] at hT
  by_cases g3 : s[a] = 47
  · rw [if_pos g3]
    rw [if_pos g3] at hT
    have hh := hT ▸ h
    unfold name at hT hh
    cases hx : nameF (cut s (a + 1) (run s (a + 1))) with
    | none => rw [hx] at hh; cases hh
    | some x =>
      rw [hx] at hT hh
      simp only at hT hh
      have ht := told_ok hh
      rw [ht] at hT
      have hr : (token s a).1.t.toNat = run s (a + 1) := by rw [hT]; simp only; omega
      have hge : a + 1 ≤ run s (a + 1) := by unfold run; omega
      rw [hr] at hu1 hlen
      have hl := run_le s (show a + 1 ≤ s.length by omega)
      have hru : run u 1 = u.length := by
        unfold run
        rw [hu1, show run s (a + 1) - (a + 1) = runF (s.drop (a + 1)) by unfold run; omega, (runF_take _).2]
        rw [hlen]; unfold run; omega
      have hcu : cut u 1 (run u 1) = cut s (a + 1) (run s (a + 1)) := by
        rw [hru]
        unfold cut
        rw [hu1, List.take_of_length_le]
        rw [List.length_take, List.length_drop]; omega
      unfold name
      rw [Nat.zero_add, hcu, hx, hru]
      simp only
      unfold told at hh ⊢
      split at hh
      · cases hh
      · rename_i hl
        rw [if_neg hl, hT]
        simp only [Prod.mk.injEq, Tok.mk.injEq, and_true, true_and]
        omega
  rw [if_neg g3]
  rw [if_neg g3] at hT
  by_cases g4 : s[a] = 40
  · rw [if_pos g4]
    rw [if_pos g4] at hT
    have hh := hT ▸ h
    unfold text at hT hh
    cases hx : textG 0 1 (s.drop (a + 1)) with
    | none => rw [hx] at hh; cases hh
    | some r =>
      rw [hx] at hT hh
      simp only at hT hh
      have ht := told_ok hh
      rw [ht] at hT
      have e : (token s a).1.t.toNat - (a + 1) = r.2 := by rw [hT]; simp only; omega
      rw [e] at hu1
      unfold text
      rw [Nat.zero_add, hu1, textG_take _ _ _ _ hx]
      simp only
      unfold told at hh ⊢
      split at hh
      · cases hh
      · rename_i hl
        rw [if_neg hl, hT]
        simp only [Prod.mk.injEq, Tok.mk.injEq, and_true, true_and]
        omega
  rw [if_neg g4]
  rw [if_neg g4] at hT
  by_cases g5 : s[a] = 41
  · rw [if_pos g5] at hT
    rw [hT] at h; cases h
  rw [if_neg g5]
  rw [if_neg g5] at hT
  have hh := hT ▸ h
  unfold word at hT hh ⊢
  have hk := wordT_ok hh
  have hr : (token s a).1.t.toNat = run s a := by rw [hT, hk.2.2]; omega
  rw [hr] at hU hlen
  have hl := run_le s (show a ≤ s.length by omega)
  have hru : run u 0 = u.length := by
    have e : run s a - a = runF (s.drop a) := by unfold run; omega
    have hu : u = (s.drop a).take (runF (s.drop a)) := by rw [← hU]; unfold cut; rw [e]
    unfold run
    rw [List.drop_zero, hlen, e, hu, (runF_take _).2, Nat.zero_add]
  rw [hru, cut_full, hT, hU]
  have hge : a ≤ run s a := by unfold run; omega
  have hmv := wordT_move hh 0 (u.length : Int)
  rw [hU] at hmv hk
  refine hmv.trans ?_
  simp only [Prod.mk.injEq, Tok.mk.injEq, and_true, true_and]
  rw [hk.2.2]; omega
/- LISTS OF TOKENS -/
/-- From at_ on the tokens are l, and then nothing is left. -/
def Chain (s : List UInt8) : Int → List Tok → Prop
  | at_, [] => 0 ≤ at_ ∧ at_ ≤ s.length ∧ skip s at_.toNat = s.length
  | at_, x :: l => 0 ≤ at_ ∧ at_ ≤ s.length ∧ next s at_ = (x, 0) ∧ x.k ≠ 0 ∧ Chain s x.t l
theorem next_end {s : List UInt8} {i : Int} (h0 : 0 ≤ i) (h1 : i ≤ s.length) (h : (next s i).2 = 0) (hk : (next s i).1.k = 0) : skip s i.toNat = s.length := by
  unfold next at h hk
  rw [if_neg (by omega)] at h hk
  have hle := skip_le s (k := i.toNat) (by omega)
  rcases Nat.lt_or_ge (skip s i.toNat) s.length with h2 | h2
  · exact absurd hk (token_bd h2 (skip_stop s i.toNat) h).1
  · omega
theorem upto_chain (s : List UInt8) : ∀ (m : Nat) (a : Int) (l : List Tok), 0 ≤ a → a ≤ s.length → upto s m a = .inl l → l.length < m → Chain s a l
  | 0, a, l, _, _, _, h => by omega
  | m + 1, a, l, h0, h1, hu, hl => by
    rw [upto] at hu
    by_cases he : (next s a).2 ≠ 0
    · rw [if_pos he] at hu; cases hu
    · rw [if_neg he] at hu
      have he0 : (next s a).2 = 0 := by omega
      by_cases hk : (next s a).1.k = 0
      · rw [if_pos hk] at hu; cases hu
        exact ⟨h0, h1, next_end h0 h1 he0 hk⟩
      · rw [if_neg hk] at hu
        cases hh : upto s m (next s a).1.t with
        | inr f => rw [hh] at hu; cases hu
        | inl r =>
          rw [hh] at hu; cases hu
          have hbd := next_bd he0 hk
          refine ⟨h0, h1, by rw [← he0], hk, upto_chain s m _ r (by omega) hbd.2.2.2.2 hh (by simpa using hl)⟩
theorem upto_fault (s : List UInt8) : ∀ (m : Nat) (a : Int) (f : Int × Int), 0 ≤ a → a ≤ s.length → upto s m a = .inr f → 0 ≤ f.1 ∧ f.1 < s.length ∧ skipI s f.1 = f.1
  | 0, a, f, _, _, h => by rw [upto] at h; cases h
  | m + 1, a, f, h0, h1, hu => by
    rw [upto] at hu
    by_cases he : (next s a).2 ≠ 0
    · rw [if_pos he] at hu; cases hu
      have e1 : skipI s a = (skip s a.toNat : Nat) := by rw [skipI, if_neg (by omega)]
      have hle := skip_le s (k := a.toNat) (by omega)
      have hlt : skip s a.toNat < s.length := by
        refine Nat.lt_of_le_of_ne hle fun e => he ?_
        unfold next
        rw [if_neg (by omega), e, token, List.drop_eq_nil_of_le (Nat.le_refl _)]
      simp only [e1]
      refine ⟨by omega, by omega, ?_⟩
      rw [skipI, if_neg (by omega), Int.toNat_natCast, skip_skip]
    · rw [if_neg he] at hu
      have he0 : (next s a).2 = 0 := by omega
      by_cases hk : (next s a).1.k = 0
      · rw [if_pos hk] at hu; cases hu
      · rw [if_neg hk] at hu
        cases hh : upto s m (next s a).1.t with
        | inl r => rw [hh] at hu; cases hu
        | inr g =>
          rw [hh] at hu; cases hu
          have hbd := next_bd he0 hk
          exact upto_fault s m _ f (by omega) hbd.2.2.2.2 hh
theorem upto_most (s : List UInt8) : ∀ (m : Nat) (a : Int) (l : List Tok), 0 ≤ a → a ≤ s.length → upto s m a = .inl l → a + l.length ≤ s.length
  | 0, a, l, h0, h1, h => by rw [upto] at h; cases h; simp; omega
  | m + 1, a, l, h0, h1, h => by
    rw [upto] at h
    by_cases he : (next s a).2 ≠ 0
    · rw [if_pos he] at h; cases h
    · rw [if_neg he] at h
      have he0 : (next s a).2 = 0 := by omega
      by_cases hk : (next s a).1.k = 0
      · rw [if_pos hk] at h; cases h; simp; omega
      · rw [if_neg hk] at h
        cases hh : upto s m (next s a).1.t with
        | inr f => rw [hh] at h; cases h
        | inl r =>
          rw [hh] at h; cases h
          have hbd := next_bd he0 hk
          have := upto_most s m _ r (by omega) hbd.2.2.2.2 hh
          have hge := skip_ge s a.toNat
          simp; omega
end Lx
end Go.Proofs.YtihjejmmldpelaaGreatDoor
/- The engine's rules for drawn regions that are quiet: guards, comparisons, choices. -/
namespace Go.Proofs.YtihjejmmldpelaaGreatDoor
set_option linter.unusedVariables false
set_option linter.unusedSimpArgs false
set_option linter.defProp false
set_option linter.unusedSimpArgs false
set_option linter.unusedVariables false
namespace Eng
open Go.RowKit
section
variable {P : Program} {C : World → Prop} {K : Value → Prop}
theorem gq_tt {E : (Value → Prop) → Prop} : GQ (.bool true) true E K = E K := propext ⟨fun x => x.out, fun x => ⟨x⟩⟩
theorem gq_ft {E : (Value → Prop) → Prop} : GQ (.bool false) true E K = K undef := propext ⟨fun x => x.out, fun x => ⟨x⟩⟩
theorem gq_ff {E : (Value → Prop) → Prop} : GQ (.bool false) false E K = E K := propext ⟨fun x => x.out, fun x => ⟨x⟩⟩
theorem gq_tf {E : (Value → Prop) → Prop} : GQ (.bool true) false E K = K undef := propext ⟨fun x => x.out, fun x => ⟨x⟩⟩
theorem gq_un {want : Bool} {E : (Value → Prop) → Prop} : GQ undef want E K = K undef := propext ⟨fun x => x.out, fun x => ⟨x⟩⟩
def gq := And.intro @gq_tt (And.intro @gq_ft (And.intro @gq_ff (And.intro @gq_tf @gq_un)))
theorem q_add {T : TypeId} {k : IntKind} {a b : Int} (h : K (.int k (k.wrap (a + b)))) : QDo P C (mBin .add T (.int k a) (.int k b)) K := q_do _ (fun _ => r_add) h
theorem q_lss {T : TypeId} {k : IntKind} {a b : Int} (h : K (.bool (decide (a < b)))) : QDo P C (mBin .lss T (.int k a) (.int k b)) K := q_do _ (fun _ => mv_run (by simp [binOp, Op.intCmp])) h
theorem q_leq {T : TypeId} {k : IntKind} {a b : Int} (h : K (.bool (decide (a ≤ b)))) : QDo P C (mBin .leq T (.int k a) (.int k b)) K := q_do _ (fun _ => mv_run (by simp [binOp, Op.intCmp])) h
theorem q_gtr {T : TypeId} {k : IntKind} {a b : Int} (h : K (.bool (decide (b < a)))) : QDo P C (mBin .gtr T (.int k a) (.int k b)) K := q_do _ (fun _ => mv_run (by simp [binOp, Op.intCmp])) h
theorem q_geq {T : TypeId} {k : IntKind} {a b : Int} (h : K (.bool (decide (b ≤ a)))) : QDo P C (mBin .geq T (.int k a) (.int k b)) K := q_do _ (fun _ => mv_run (by simp [binOp, Op.intCmp])) h
theorem q_eq {T : TypeId} {xo yo : Operand} {k : IntKind} {a b : Int} (h : K (.bool (decide (a = b)))) : QDo P C (mEq .eql T xo yo (.int k a) (.int k b)) K := q_do _ (fun _ => mv_run (by simp [eqGuard, binOp, Op.intCmp, int_beq])) h
theorem q_ne {T : TypeId} {xo yo : Operand} {k : IntKind} {a b : Int} (h : K (.bool (decide (a ≠ b)))) : QDo P C (mEq .neq T xo yo (.int k a) (.int k b)) K := q_do _ (fun _ => mv_run (by simp [eqGuard, binOp, Op.intCmp, int_bne])) h
theorem q_pick {c : Bool} {a b : Value} (h : K (if c then a else b)) : QDo P C (mPick (.bool c) a b) K := q_do _ (fun _ => by simp [mPick, asBool]) h
theorem q_pt {a b : Value} (h : K a) : QDo P C (mPick (.bool true) a b) K := q_pick h
theorem q_pf {a b : Value} (h : K b) : QDo P C (mPick (.bool false) a b) K := q_pick h
theorem q_slen {T U : TypeId} {cs : Array Bool} {a : List UInt8} (ht : P.underlying T = some .string) (h : K (.int .i64 (a.length : Int))) : QDo P C (mB .len #[T] U cs #[.string ⟨a.toArray⟩]) K := q_do _ (fun _ => run_len ht) h
theorem p_do {m : Sem Next} (v : Value) (h : ∀ w, m.run P w = .ok (.value v) w) (k : K v) : PDo P m K := ⟨v, h, k⟩
theorem run_s_add {w : World} {T : TypeId} {a b : List UInt8} (h : a.length + b.length ≤ 9223372036854775807) : (mBin .add T (.string ⟨a.toArray⟩) (.string ⟨b.toArray⟩)).run P w = .ok (.value (.string ⟨(a ++ b).toArray⟩)) w := by
  refine mv_run ?_
  have e : IntKind.i64.max = 9223372036854775807 := rfl
  have e2 : ¬ (((⟨a.toArray⟩ : ByteArray).size + (⟨b.toArray⟩ : ByteArray).size : Nat) : Int) > IntKind.i64.max := by rw [str_size, str_size, e]; omega
  simp only [binOp, Op.stringOp, if_neg e2, str_append]
  rfl
theorem q_quo {T : TypeId} {k : IntKind} {a b : Int} (hb : b ≠ 0) (h : K (.int k (k.wrap (a.tdiv b)))) : QDo P C (mBin .quo T (.int k a) (.int k b)) K := q_do _ (fun _ => r_quo hb) h
theorem q_rem {T : TypeId} {k : IntKind} {a b : Int} (hb : b ≠ 0) (h : K (.int k (a.tmod b))) : QDo P C (mBin .rem T (.int k a) (.int k b)) K := q_do _ (fun _ => r_rem hb) h
theorem q_ix {T : TypeId} {k : IntKind} {i : Int} {a : List UInt8} {c : UInt8} (ht : P.underlying T = some .string) (h0 : 0 ≤ i) (hc : a[i.toNat]? = some c) (h : K (.int .u8 (c.toNat : Int))) : QDo P C (mIx T (.string ⟨a.toArray⟩) (.int k i)) K := q_do _ (fun _ => run_s_ix ht h0 hc) h
theorem q_sne {T : TypeId} {xo yo : Operand} {a b : List UInt8} (h : K (.bool (decide (a ≠ b)))) : QDo P C (mEq .neq T xo yo (.string ⟨a.toArray⟩) (.string ⟨b.toArray⟩)) K := by
  refine q_do _ (fun _ => mv_run ?_) h
  have e : (a == b) = decide (a = b) := by by_cases h : a = b <;> simp [h]
  simp [eqGuard, binOp, Op.stringOp, str_toList, e]
theorem q_seq {T : TypeId} {xo yo : Operand} {a b : List UInt8} (h : K (.bool (decide (a = b)))) : QDo P C (mEq .eql T xo yo (.string ⟨a.toArray⟩) (.string ⟨b.toArray⟩)) K := by
  refine q_do _ (fun _ => mv_run ?_) h
  have e : (a == b) = decide (a = b) := by by_cases h : a = b <;> simp [h]
  simp [eqGuard, binOp, Op.stringOp, str_toList, e]
theorem run_sl_len {T U E : TypeId} {w : World} {cb : Array Bool} {v : Value} {sz n : Nat} {cs : List Value} (h : P.underlying T = some (.slice E)) (hs : Sl w v sz n cs) : (mB .len #[T] U cb #[v]).run P w = .ok (.value (.int .i64 (n : Int))) w := by
  obtain ⟨_, a, cap, rfl, _⟩ := hs
  simp [mB, builtin, Builtin.len_, run_underlying h, goInt]
end
end Eng
end Go.Proofs.YtihjejmmldpelaaGreatDoor
/- foliantlaw03.LexAll, LexApart. -/
namespace Go.Proofs.YtihjejmmldpelaaGreatDoor
set_option linter.unusedVariables false
set_option linter.unusedSimpArgs false
set_option linter.defProp false
open Eng Go.RowKit

theorem uptoP_len (s : List UInt8) (i n : Int) : (uptoP s i n).1.length ≤ s.length := by
  unfold uptoP
  split
  · simp
  · rename_i h
    cases hu : Lx.upto s n.toNat i with
    | inl l => have := Lx.upto_most s _ i l (by omega) (by omega) hu; simp only; omega
    | inr f => simp
theorem allP_len (s : List UInt8) : (allP s).1.length ≤ s.length := by
  unfold allP
  cases hu : Lx.upto s 1048577 0 with
  | inl l =>
    have := Lx.upto_most s _ 0 l (by omega) (by omega) hu
    simp only
    split
    · simp
    · simp only; omega
  | inr f => simp
/-- Short strings: the tokens, or the first fault. -/
theorem allP_short (s : List UInt8) (h : s.length ≤ 1048576) : ((allP s).2 = (0, 0) ∧ Lx.Chain s 0 (allP s).1) ∨ ((allP s).1 = [] ∧ (allP s).2.2 ≠ 0 ∧ 0 ≤ (allP s).2.1 ∧ (allP s).2.1 < s.length ∧ Lx.skipI s (allP s).2.1 = (allP s).2.1) := by
  unfold allP
  cases hu : Lx.upto s 1048577 0 with
  | inl l =>
    have := Lx.upto_most s _ 0 l (by omega) (by omega) hu
    simp only
    rw [if_neg (by omega)]
    exact .inl ⟨rfl, Lx.upto_chain s _ 0 l (by omega) (by omega) hu (by omega)⟩
  | inr f =>
    have := Lx.upto_fault s _ 0 f (by omega) (by omega) hu
    exact .inr ⟨rfl, upto_pos s _ _ f hu, this⟩
/-- What is left of the tokens, from at_ on. -/
theorem chain_at (s : List UInt8) : ∀ (l : List Lx.Tok) (a : Int) (k : Nat), Lx.Chain s a l → k ≤ l.length → ∃ b : Int, Lx.Chain s b (l.drop k) ∧ (k = 0 → b = a) ∧ (∀ x, 0 < k → l[k - 1]? = some x → b = x.t)
  | l, a, 0, h, _ => ⟨a, by simpa using h, fun _ => rfl, fun _ h => by omega⟩
  | [], a, k + 1, h, hk => by simp at hk
  | x :: l, a, k + 1, h, hk => by
    obtain ⟨h0, h1, hn, hx, hc⟩ := h
    obtain ⟨b, g1, g2, g3⟩ := chain_at s l x.t k hc (by simpa using hk)
    refine ⟨b, by simpa using g1, fun h => by omega, fun y _ hy => ?_⟩
    cases k with
    | zero =>
      simp only [Nat.zero_add, Nat.sub_self, List.getElem?_cons_zero, Option.some.injEq] at hy
      rw [g2 rfl, hy]
    | succ k => exact g3 y (by omega) (by simpa using hy)
end Go.Proofs.YtihjejmmldpelaaGreatDoor
/- Contracts: the reference of layer 4: String, Name, Join, Pad. -/
namespace Go.Proofs.YtihjejmmldpelaaGreatDoor
set_option linter.unusedVariables false
set_option linter.unusedSimpArgs false
set_option linter.defProp false
open Eng Go.RowKit

theorem rstr_ret (l : List UInt8) (w : World) (hl : l.length ≤ 1000000) : Ret Tryz.prog 82 #[.string ⟨l.toArray⟩] w (fun v w' => v = .tuple #[.string ⟨(Pl.pStr l).1.toArray⟩, .int .i64 (Pl.pStr l).2] ∧ Below w.heap.size w w') := by
  refine ret_of fun K hK => S_foliantref04_String_ok ?_
  unfold S_foliantref04_String
  rw [s_len Tryz.underlying9, b_gtr]
  by_cases h1 : (32767 : Int) < l.length
  · simp only [rs, h1, decide_true]
    exact hK _ _ ⟨by rw [Pl.pStr, if_pos (by omega)], Below.refl _ _⟩
  simp only [rs, h1, decide_false]
  refine o_new (fun b => .slice (some ⟨b, 0, none⟩) 1 1) (bytesV [40]) 5 (fun _ => by kernel_rfl) (Own.start w) fun nb w1 ho1 => ?_
  have ho := OwnS.toRow ho1 1 1 1 rfl (by omega) (by omega)
  refine loop (fun vs w' => ∃ (i : Nat) (v : Value), vs = [v, .int .i64 i] ∧ i ≤ l.length ∧ Own w w' [BRow v ([40] ++ (l.take i).flatMap Pl.esc)])
    (fun vs _ => l.length - n1 vs) ⟨0, _, rfl, by omega, by simpa [BRow, bytesV] using ho⟩ ?_
  rintro vs w2 ⟨i, v, rfl, hi, ho2⟩ _
  simp only [S_foliantref04_String_0, gd, s_len Tryz.underlying9]
  rw [b_lss]
  have hfl := Pl.flat_len Pl.esc 4 (fun c => (Pl.esc_len c).2) (l.take i)
  have htk : (l.take i).length ≤ l.length := by rw [List.length_take]; omega
  have hbd : ([40] ++ (l.take i).flatMap Pl.esc).length ≤ 140000 := by simp only [List.length_append, List.length_cons, List.length_nil]; omega
  by_cases hlt : (i : Int) < (l.length : Int)
  · have hi2 : i < l.length := by omega
    simp only [hlt, decide_true, i_t]
    refine join fun J2 hJ2 => ?_
    rw [s_ix (c := l[i]) Tryz.underlying9 (by omega) (by simp [hi2])]
    have fin : ∀ (v' : Value) (w' : World), Own w w' [BRow v' ([40] ++ (l.take i).flatMap Pl.esc ++ Pl.esc l[i])] → J2 [v'] w' := by
      intro v' w' h'
      refine hJ2 _ _ fun _ => ?_
      simp only [S_foliantref04_String_2, gd]
      rw [b_add, wrap64_id (by omega) (by omega)]
      refine nextX ⟨i + 1, v', rfl, by omega, ?_⟩ (by simp [n1, intOf]; omega)
      rw [List.take_succ_eq_append_getElem hi2, Pl.flat_snoc, ← List.append_assoc]
      exact h'
    generalize hc : l[i] = c at *
    have h256 := c.toNat_lt
    have oct : ¬ (c = 40 ∨ c = 41 ∨ c = 92) → (c.toNat < 32 ∨ 126 < c.toNat) →
        DoX Tryz.prog (mBin .quo 5 (.int .u8 c.toNat) (.int .u8 64)) w2 (pk K) fun t28 w =>
        DoX Tryz.prog (mBin .add 5 (.int .u8 48) t28) w (pk K) fun t29 w =>
        DoX Tryz.prog (mBin .quo 5 (.int .u8 c.toNat) (.int .u8 8)) w (pk K) fun t31 w =>
        DoX Tryz.prog (mBin .rem 5 t31 (.int .u8 8)) w (pk K) fun t32 w =>
        DoX Tryz.prog (mBin .add 5 (.int .u8 48) t32) w (pk K) fun t33 w =>
        DoX Tryz.prog (mBin .rem 5 (.int .u8 c.toNat) (.int .u8 8)) w (pk K) fun t35 w =>
        DoX Tryz.prog (mBin .add 5 (.int .u8 48) t35) w (pk K) fun t36 w =>
        DoX Tryz.prog (mBuildS 62 4 #[(0, (.int .u8 92)), (1, t29), (2, t33), (3, t36)]) w (pk K) fun t37 w =>
        DoX Tryz.prog (mB .append #[62, 62] 62 #[false, false] #[v, t37]) w (pk K) fun t38 w =>
        J2 [t38] w := by
      intro hn hcc
      have q64 : ((c.toNat : Int).tdiv 64) = ((c.toNat / 64 : Nat) : Int) := by rw [Int.tdiv_eq_ediv_of_nonneg (by omega)]; omega
      have q8 : ((c.toNat : Int).tdiv 8) = ((c.toNat / 8 : Nat) : Int) := by rw [Int.tdiv_eq_ediv_of_nonneg (by omega)]; omega
      have r8 : ((c.toNat : Int).tmod 8) = ((c.toNat % 8 : Nat) : Int) := by rw [Int.tmod_eq_emod_of_nonneg (by omega)]; omega
      have qr : (((c.toNat / 8 : Nat) : Int).tmod 8) = ((c.toNat / 8 % 8 : Nat) : Int) := by rw [Int.tmod_eq_emod_of_nonneg (by omega)]; omega
      rw [b_quo (by omega), q64, wrap8_id (by omega) (by omega), b_add, wrap8_id (by omega) (by omega), b_quo (by omega), q8, wrap8_id (by omega) (by omega), b_rem (by omega), qr, b_add, wrap8_id (by omega) (by omega), b_rem (by omega), r8, b_add, wrap8_id (by omega) (by omega)]
      rw [show ((48 : Int) + ((c.toNat / 64 : Nat) : Int)) = ((48 + c.toNat / 64 : Nat) : Int) by omega, show ((48 : Int) + ((c.toNat / 8 % 8 : Nat) : Int)) = ((48 + c.toNat / 8 % 8 : Nat) : Int) by omega, show ((48 : Int) + ((c.toNat % 8 : Nat) : Int)) = ((48 + c.toNat % 8 : Nat) : Int) by omega]
      rw [← u8_of (48 + c.toNat / 64) (by omega), ← u8_of (48 + c.toNat / 8 % 8) (by omega), ← u8_of (48 + c.toNat % 8) (by omega)]
      refine o_appB (m := Pl.oct c) (fun _ => by kernel_rfl) ho2 (by simp only [Pl.oct, List.length_cons, List.length_nil]; omega) fun v' w5 h5 => ?_
      refine fin v' w5 ?_
      rw [show Pl.esc c = Pl.oct c by rw [Pl.esc, if_neg hn, if_pos hcc]]
      exact h5
    have plainc : ∀ (l' : List UInt8) (v' : Value) (w' : World), Own w w' [BRow v' ([40] ++ (l.take i).flatMap Pl.esc ++ l')] → l'.length ≤ 1 → l' ++ [c] = Pl.esc c → S_foliantref04_String_1 v' (.int .u8 c.toNat) w' J2 K := by
      intro l' v' w' h' hl' he
      simp only [S_foliantref04_String_1]
      refine o_appB (m := [c]) (fun _ => by kernel_rfl) h' (by simp only [List.length_append, List.length_cons, List.length_nil] at hbd ⊢; omega) fun v2 w5 h5 => ?_
      refine fin v2 w5 ?_
      rw [← he, ← List.append_assoc]
      exact h5
    by_cases h2 : (c.toNat : Int) < 32
    · simp only [rs, h2, decide_true, g_un]
      have := oct (by rintro (rfl | rfl | rfl) <;> simp at h2) (.inl (by omega))
      simpa only [rs] using this
    simp only [rs, h2, decide_false, g_un]
    by_cases h3 : (126 : Int) < (c.toNat : Int)
    · simp only [rs, h3, decide_true, g_un]
      have := oct (by rintro (rfl | rfl | rfl) <;> simp at h3) (.inr (by omega))
      simpa only [rs] using this
    simp only [rs, h3, decide_false, g_un]
    refine join fun J3 hJ3 => ?_
    have two : (c = 40 ∨ c = 41 ∨ c = 92) → DoX Tryz.prog (mBuildS 62 1 #[(0, (.int .u8 92))]) w2 (pk K) fun t50 w =>
        DoX Tryz.prog (mB .append #[62, 62] 62 #[false, false] #[v, t50]) w (pk K) fun t51 w => J3 [t51] w := by
      intro hcc
      refine o_appB (m := [92]) (fun _ => by kernel_rfl) ho2 (by simp only [List.length_cons, List.length_nil]; omega) fun v' w5 h5 => ?_
      refine hJ3 _ _ fun _ => ?_
      simp only [gd]
      exact plainc [92] v' w5 h5 (by simp) (by rw [Pl.esc, if_pos hcc]; rfl)
    have e1 := u8d c 40 40 rfl
    have e2 := u8d c 41 41 rfl
    have e3 := u8d c 92 92 rfl
    by_cases g1 : c = 40
    · simp only [rs, e1, decide_eq_true g1, g_un]; exact two (.inl g1)
    simp only [rs, e1, decide_eq_false g1, g_un]
    by_cases g2 : c = 41
    · simp only [rs, e2, decide_eq_true g2, g_un]; exact two (.inr (.inl g2))
    simp only [rs, e2, decide_eq_false g2, g_un]
    by_cases g3 : c = 92
    · simp only [rs, e3, decide_eq_true g3, g_un]; exact two (.inr (.inr g3))
    simp only [rs, e3, decide_eq_false g3, g_un]
    refine hJ3 _ _ fun _ => ?_
    simp only [gd]
    exact plainc [] v w2 (by rw [List.append_nil]; exact ho2) (by simp) (by rw [Pl.esc, if_neg (by simp [g1, g2, g3]), if_neg (by omega)]; rfl)
  · have hi2 : i = l.length := by omega
    subst hi2
    simp only [hlt, decide_false, i_f]
    rw [List.take_length] at ho2 hbd
    refine o_appB (m := [41]) (fun _ => by kernel_rfl) ho2 (by simp only [List.length_cons, List.length_nil]; omega) fun v' w5 h5 => ?_
    rw [o_strB 0 h5 rfl]
    exact hK _ _ ⟨by rw [Pl.pStr, if_neg (by omega)]; rfl, h5.done⟩
theorem rname_ret (l : List UInt8) (w : World) : Ret Tryz.prog 45 #[.string ⟨l.toArray⟩] w (fun v w' => v = .tuple #[.string ⟨(Pl.pName l).1.toArray⟩, .int .i64 (Pl.pName l).2] ∧ Below w.heap.size w w') := by
  refine ret_of fun K hK => S_foliantref04_Name_ok ?_
  unfold S_foliantref04_Name
  rw [s_len Tryz.underlying9, b_gtr]
  by_cases h1 : (127 : Int) < l.length
  · simp only [rs, h1, decide_true]
    exact hK _ _ ⟨by rw [Pl.pName, if_pos (by omega)], Below.refl _ _⟩
  simp only [rs, h1, decide_false]
  change LoopX [.string ⟨([47] : List UInt8).toArray⟩, _] _ _
  refine loop (fun vs w' => ∃ (i : Nat), vs = [.string ⟨([47] ++ (l.take i).flatMap Pl.nmc).toArray⟩, .int .i64 i] ∧ i ≤ l.length ∧ (l.take i).contains 0 = false ∧ Below w.heap.size w w')
    (fun vs _ => l.length - n1 vs) ⟨0, rfl, by omega, rfl, Below.refl _ _⟩ ?_
  rintro vs w2 ⟨i, rfl, hi, h0, hb2⟩ _
  simp only [S_foliantref04_Name_0, gd, s_len Tryz.underlying9]
  rw [b_lss]
  have hfl := Pl.flat_len Pl.nmc 4 (fun c => Nat.le_trans (Pl.nmc_len c).2 (by omega)) (l.take i)
  have htk : (l.take i).length ≤ l.length := by rw [List.length_take]; omega
  have hbd : ([47] ++ (l.take i).flatMap Pl.nmc).length ≤ 140000 := by simp only [List.length_append, List.length_cons, List.length_nil]; omega
  by_cases hlt : (i : Int) < (l.length : Int)
  · have hi2 : i < l.length := by omega
    simp only [hlt, decide_true, i_t]
    refine join fun J2 hJ2 => ?_
    rw [s_ix (c := l[i]) Tryz.underlying9 (by omega) (by simp [hi2])]
    have e0 := u8d l[i] 0 0 rfl
    rw [e_int]
    by_cases hz : l[i] = 0
    · simp only [e0, decide_eq_true hz, i_t]
      refine hK _ _ ⟨?_, hb2⟩
      have : l.contains 0 = true := by rw [List.contains_iff_mem, ← hz]; exact List.getElem_mem hi2
      rw [Pl.pName, if_neg (by omega), if_pos this]
    simp only [e0, decide_eq_false hz, i_f]
    have hz2 : (l.take (i + 1)).contains 0 = false := by
      rw [List.take_succ_eq_append_getElem hi2]
      simp only [List.contains_eq_mem, decide_eq_false_iff_not, List.mem_append, List.mem_singleton, not_or] at h0 ⊢
      exact ⟨h0, fun e => hz e.symm⟩
    have fin : ∀ (w' : World), Below w.heap.size w w' → J2 [.string ⟨([47] ++ (l.take i).flatMap Pl.nmc ++ Pl.nmc l[i]).toArray⟩] w' := by
      intro w' h'
      refine hJ2 _ _ fun _ => ?_
      simp only [S_foliantref04_Name_1, gd]
      rw [b_add, wrap64_id (by omega) (by omega)]
      refine nextX ⟨i + 1, ?_, by omega, hz2, h'⟩ (by simp [n1, intOf]; omega)
      rw [List.take_succ_eq_append_getElem hi2, Pl.flat_snoc, ← List.append_assoc]
      rfl
    have hsl : ∀ {PK K}, DoX Tryz.prog (mSlice 9 (.string ⟨l.toArray⟩) (some (.int .i64 (i : Int))) (some (.int .i64 ((i : Int) + 1))) none) w2 PK K = K (.string ⟨([l[i]] : List UInt8).toArray⟩) w2 := by
      intro PK K
      rw [s_slice Tryz.underlying9 (by omega) (by omega) (by omega), Int.toNat_natCast, show ((i : Int) + 1).toNat - i = 1 by omega, List.drop_eq_getElem_cons hi2]
      rfl
    generalize hc : l[i] = c at *
    have no : Pl.nmOk c = false → DoX Tryz.prog (mBin .add 3 (.int .i64 (i : Int)) (.int .i64 1)) w2 (pk K) fun t39 w =>
        DoX Tryz.prog (mSlice 9 (.string ⟨l.toArray⟩) (some (.int .i64 (i : Int))) (some t39) none) w (pk K) fun t40 w =>
        CallX Tryz.prog 80 #[t40] w (pk K) fun t41 w =>
        DoX Tryz.prog (mBin .add 9 (.string ⟨#[35]⟩) t41) w (pk K) fun t42 w =>
        DoX Tryz.prog (mBin .add 9 (.string ⟨([47] ++ (l.take i).flatMap Pl.nmc).toArray⟩) t42) w (pk K) fun t43 w =>
        J2 [t43] w := by
      intro hn
      rw [b_add, wrap64_id (by omega) (by omega), hsl]
      refine c_ret (rhex_ret [c] w2 (by simp)) ?_
      rintro _ w3 ⟨rfl, hb3⟩
      have hx := Oc.hex_length [c]
      change DoX Tryz.prog (mBin .add 9 (.string ⟨([35] : List UInt8).toArray⟩) (.string ⟨(Oc.hex [c]).toArray⟩)) _ _ _
      simp only [List.length_cons, List.length_nil] at hx
      rw [s_add (by simp; omega), s_add (by simp only [List.length_append, List.length_cons, List.length_nil] at hbd ⊢; omega)]
      have := fin w3 (hb2.trans (hb3.mono hb2.size))
      rw [Pl.nmc, if_neg (by simp [hn])] at this
      exact this
    have yes : Pl.nmOk c = true → DoX Tryz.prog (mBin .add 3 (.int .i64 (i : Int)) (.int .i64 1)) w2 (pk K) fun t48 w =>
        DoX Tryz.prog (mSlice 9 (.string ⟨l.toArray⟩) (some (.int .i64 (i : Int))) (some t48) none) w (pk K) fun t49 w =>
        DoX Tryz.prog (mBin .add 9 (.string ⟨([47] ++ (l.take i).flatMap Pl.nmc).toArray⟩) t49) w (pk K) fun t50 w =>
        J2 [t50] w := by
      intro hn
      rw [b_add, wrap64_id (by omega) (by omega), hsl, s_add (by simp only [List.length_append, List.length_cons, List.length_nil] at hbd ⊢; omega)]
      have := fin w2 hb2
      rw [Pl.nmc, if_pos hn] at this
      exact this
    rw [b_lss]
    by_cases g1 : (c.toNat : Int) < 33
    · simp only [g1, decide_true, g_tf, g_un, p_t, i_t]
      exact no (by simp [Pl.nmOk]; omega)
    simp only [g1, decide_false, g_ff, p_f]
    rw [b_gtr]
    by_cases g2 : (126 : Int) < (c.toNat : Int)
    · simp only [g2, decide_true, g_tf, g_un, p_t, i_t]
      exact no (by simp [Pl.nmOk]; omega)
    simp only [g2, decide_false, g_ff, p_f]
    rw [e_int]
    have e35 := u8d c 35 35 rfl
    by_cases g3 : c = 35
    · simp only [e35, decide_eq_true g3, g_tf, g_un, p_t, i_t]
      exact no (by simp [Pl.nmOk, g3])
    simp only [e35, decide_eq_false g3, g_ff, p_f]
    refine c_eq (rdelim_ret c w2) ?_
    cases hd : Oc.delim c with
    | true => simp only [p_f, i_t]; exact no (by simp [Pl.nmOk, hd])
    | false => simp only [p_f, i_f]; exact yes (by simp [Pl.nmOk, hd, g3]; omega)
  · have hi2 : i = l.length := by omega
    subst hi2
    simp only [hlt, decide_false, i_f]
    rw [List.take_length] at h0 ⊢
    exact hK _ _ ⟨by rw [Pl.pName, if_neg (by omega), if_neg (by simp at h0; simp [h0])]; rfl, hb2⟩
theorem rjoin_ret (ps : List (List UInt8)) (v : Value) (w : World) (hs : Sl w v 1 ps.length (strsV ps)) (hb : Pl.tot ps ≤ 1000000000000) :
    Ret Tryz.prog 39 #[v] w (fun r w' => r = .string ⟨(Pl.join ps).toArray⟩ ∧ w = w') := by
  refine ret_of fun K hK => S_foliantref04_Join_ok ?_
  unfold S_foliantref04_Join
  rw [sl_len Tryz.underlying22 hs]
  have hlen := Pl.length_tot ps
  change LoopX [.string ⟨([] : List UInt8).toArray⟩, _] _ _
  refine loop (fun vs w' => ∃ (i : Nat), vs = [.string ⟨(Pl.join (ps.take i)).toArray⟩, .int .i64 i] ∧ i ≤ ps.length ∧ w = w')
    (fun vs _ => ps.length - n1 vs) ⟨0, rfl, by omega, rfl⟩ ?_
  rintro vs w2 ⟨i, rfl, hi, rfl⟩ _
  simp only [S_foliantref04_Join_0, gd]
  rw [b_lss]
  by_cases hlt : (i : Int) < (ps.length : Int)
  · have hi2 : i < ps.length := by omega
    simp only [hlt, decide_true, i_t]
    have hgt := Pl.get_tot ps i hi2
    have hjl := Pl.join_len (ps.take i)
    have hnext : Pl.join (ps.take (i + 1)) = Pl.glue (Pl.join (ps.take i)) ps[i] := by rw [List.take_succ_eq_append_getElem hi2, Pl.join_snoc]
    have hacc : ∃ acc, Pl.join (ps.take i) = acc := ⟨_, rfl⟩
    obtain ⟨acc, hacc⟩ := hacc
    rw [hacc] at hjl hnext ⊢
    refine sl_ia1 (.string ⟨ps[i].toArray⟩) Tryz.underlying22 (by kernel_rfl) hs (by omega) (by rw [Int.toNat_natCast]; exact strsV_get hi2) fun p hp => ?_
    rw [l_cell (by kernel_rfl) hp]
    refine join fun J2 hJ2 => ?_
    have fin : ∀ (acc' : List UInt8), acc'.length ≤ acc.length + 1 → acc' ++ ps[i] = Pl.glue acc ps[i] → J2 [.string ⟨acc'.toArray⟩] w := by
      intro acc' hl' he
      refine hJ2 _ _ fun _ => ?_
      simp only [S_foliantref04_Join_1, gd]
      rw [s_add (by omega), b_add, wrap64_id (by omega) (by omega)]
      refine nextX ⟨i + 1, by rw [hnext, ← he]; rfl, by omega, rfl⟩ (by simp [n1, intOf]; omega)
    change DoX Tryz.prog (mEq .neq _ _ _ _ (.string ⟨([] : List UInt8).toArray⟩)) _ _ _
    rw [n_str]
    by_cases hp0 : ps[i] = []
    · have hd : decide (ps[i] ≠ []) = false := decide_eq_false (by simp [hp0])
      simp only [hd, rs, g_un]
      exact fin acc (by omega) (by rw [hp0, Pl.glue_nil, List.append_nil])
    have hd : decide (ps[i] ≠ []) = true := decide_eq_true hp0
    simp only [hd, rs]
    obtain ⟨c, t, hct⟩ : ∃ c t, ps[i] = c :: t := by
      cases h : ps[i] with
      | nil => exact absurd h hp0
      | cons c t => exact ⟨c, t, rfl⟩
    have skip : ((Oc.regular (Pl.lastC acc) || decide (Pl.lastC acc = 47)) && Oc.regular c) = false → J2 [.string ⟨acc.toArray⟩] w := by
      intro hc
      refine fin acc (by omega) ?_
      rw [hct]
      simp only [Pl.glue]
      rw [if_neg (by simp [hc])]
    have put : ((Oc.regular (Pl.lastC acc) || decide (Pl.lastC acc = 47)) && Oc.regular c) = true → DoX Tryz.prog (mBin .add 9 (.string ⟨acc.toArray⟩) (.string ⟨#[32]⟩)) w (pk K) fun t36 w => J2 [t36] w := by
      intro hc
      change DoX Tryz.prog (mBin .add _ _ (.string ⟨([32] : List UInt8).toArray⟩)) _ _ _
      rw [s_add (by simp; omega)]
      refine fin _ (by simp) ?_
      rw [hct]
      simp only [Pl.glue]
      rw [if_pos hc]
    by_cases ha : acc = []
    · have hd2 : decide (acc ≠ []) = false := decide_eq_false (by simp [ha])
      simp only [hd2, rs, g_un]
      exact skip (by rw [ha]; simp [Pl.lastC_nil]; intro h; exact absurd h (by decide))
    have hd2 : decide (acc ≠ []) = true := decide_eq_true ha
    simp only [hd2, rs]
    rw [s_ix (c := c) Tryz.underlying9 (by omega) (by rw [hct]; rfl)]
    refine c_eq (rregular_ret c w) ?_
    cases hc : Oc.regular c with
    | false => simp only [rs]; exact skip (by simp [hc])
    | true =>
      simp only [rs]
      rw [s_len Tryz.underlying9]
      have hpos : 0 < acc.length := List.length_pos_iff.2 ha
      rw [b_sub, wrap64_id (by omega) (by omega), s_ix (c := Pl.lastC acc) Tryz.underlying9 (by omega) (by
        rw [show (((acc.length : Nat) : Int) - 1).toNat = acc.length - 1 by omega]
        exact Pl.last_get _ ha)]
      have e47 := u8d (Pl.lastC acc) 47 47 rfl
      by_cases h47 : Pl.lastC acc = 47
      · simp only [rs, e47, decide_eq_true h47, g_un]
        exact put (by simp [h47, hc])
      simp only [rs, e47, decide_eq_false h47]
      refine c_eq (rregular_ret _ w) ?_
      cases hr : Oc.regular (Pl.lastC acc) with
      | true => simp only [rs]; exact put (by simp [hr, hc])
      | false => simp only [rs]; exact skip (by simp [hr, h47])
  · have hi2 : i = ps.length := by omega
    subst hi2
    simp only [hlt, decide_false, i_f]
    rw [List.take_length]
    exact hK _ _ ⟨rfl, rfl⟩
end Go.Proofs.YtihjejmmldpelaaGreatDoor
/- Plain mathematics of layer 4: encodings are one-to-one; no program in sight. -/
namespace Go.Proofs.YtihjejmmldpelaaGreatDoor
set_option linter.unusedVariables false
set_option linter.unusedSimpArgs false
set_option linter.defProp false
open Go
namespace Pl
open Oc
/-- A code of bytes that tells each byte by its head. -/
def Head (f : UInt8 → List UInt8) : Prop := ∀ c d x y, f c ++ x = f d ++ y → c = d ∧ x = y
theorem flat_inj {f : UInt8 → List UInt8} (h : Head f) (hn : ∀ c, f c ≠ []) : ∀ (l m x y : List UInt8), l.flatMap f ++ x = m.flatMap f ++ y → (∀ c z, x = f c ++ z → False) → (∀ c z, y = f c ++ z → False) → l = m ∧ x = y
  | [], [], x, y, e, _, _ => ⟨rfl, by simpa using e⟩
  | [], d :: m, x, y, e, hx, _ => by
    simp only [List.flatMap_nil, List.nil_append, List.flatMap_cons, List.append_assoc] at e
    exact (hx d _ e).elim
  | c :: l, [], x, y, e, _, hy => by
    simp only [List.flatMap_nil, List.nil_append, List.flatMap_cons, List.append_assoc] at e
    exact (hy c _ e.symm).elim
  | c :: l, d :: m, x, y, e, hx, hy => by
    simp only [List.flatMap_cons, List.append_assoc] at e
    obtain ⟨rfl, e2⟩ := h c d _ _ e
    obtain ⟨rfl, rfl⟩ := flat_inj h hn l m x y e2 hx hy
    exact ⟨rfl, rfl⟩
theorem ofNat_inj {a b : Nat} (ha : a < 256) (hb : b < 256) (h : UInt8.ofNat a = UInt8.ofNat b) : a = b := by
  have := congrArg UInt8.toNat h
  rw [UInt8.toNat_ofNat', UInt8.toNat_ofNat'] at this
  omega
theorem esc_head : Head esc := by
  intro c d x y h
  have hc := c.toNat_lt
  have hd := d.toNat_lt
  have kc : ∀ k : UInt8, (UInt8.ofNat (48 + k.toNat / 64) = 40 ∨ UInt8.ofNat (48 + k.toNat / 64) = 41 ∨ UInt8.ofNat (48 + k.toNat / 64) = 92) → False := by
    intro k hk
    have hkl := k.toNat_lt
    rcases hk with hk | hk | hk
    · have := ofNat_inj (b := 40) (by omega) (by omega) hk; omega
    · have := ofNat_inj (b := 41) (by omega) (by omega) hk; omega
    · have := ofNat_inj (b := 92) (by omega) (by omega) hk; omega
  unfold esc at h
  by_cases c1 : c = 40 ∨ c = 41 ∨ c = 92
  · by_cases d1 : d = 40 ∨ d = 41 ∨ d = 92
    · rw [if_pos c1, if_pos d1] at h
      simp at h
      exact h
    · rw [if_pos c1, if_neg d1] at h
      by_cases d2 : d.toNat < 32 ∨ 126 < d.toNat
      · rw [if_pos d2] at h
        simp only [oct, List.cons_append, List.nil_append, List.cons.injEq, true_and] at h
        exact (kc d (by rw [← h.1]; exact c1)).elim
      · rw [if_neg d2] at h
        simp at h
        exact (d1 (.inr (.inr h.1.symm))).elim
  · by_cases d1 : d = 40 ∨ d = 41 ∨ d = 92
    · rw [if_neg c1, if_pos d1] at h
      by_cases c2 : c.toNat < 32 ∨ 126 < c.toNat
      · rw [if_pos c2] at h
        simp only [oct, List.cons_append, List.nil_append, List.cons.injEq, true_and] at h
        exact (kc c (by rw [h.1]; exact d1)).elim
      · rw [if_neg c2] at h
        simp at h
        exact (c1 (.inr (.inr h.1))).elim
    · rw [if_neg c1, if_neg d1] at h
      by_cases c2 : c.toNat < 32 ∨ 126 < c.toNat
      · by_cases d2 : d.toNat < 32 ∨ 126 < d.toNat
        · rw [if_pos c2, if_pos d2] at h
          simp only [oct, List.cons_append, List.nil_append, List.cons.injEq, true_and] at h
          obtain ⟨h1, h2, h3, h4⟩ := h
          have g1 := ofNat_inj (by omega) (by omega) h1
          have g2 := ofNat_inj (by omega) (by omega) h2
          have g3 := ofNat_inj (by omega) (by omega) h3
          exact ⟨UInt8.toNat_inj.1 (by omega), h4⟩
        · rw [if_pos c2, if_neg d2] at h
          simp [oct] at h
          exact (d1 (.inr (.inr h.1.symm))).elim
      · by_cases d2 : d.toNat < 32 ∨ 126 < d.toNat
        · rw [if_neg c2, if_pos d2] at h
          simp [oct] at h
          exact (c1 (.inr (.inr h.1))).elim
        · rw [if_neg c2, if_neg d2] at h
          simpa using h
theorem hexD_inj : ∀ a b : Fin 16, hexD a.val = hexD b.val → a = b := by decide +kernel
theorem nmc_head : Head nmc := by
  intro c d x y h
  have hc := c.toNat_lt
  have hd := d.toNat_lt
  have ne : ∀ k, nmOk k = true → k ≠ 35 := by intro k hk; simp [nmOk] at hk; exact hk.1.2
  unfold nmc at h
  by_cases c1 : nmOk c = true
  · by_cases d1 : nmOk d = true
    · rw [if_pos c1, if_pos d1] at h; simpa using h
    · rw [if_pos c1, if_neg d1] at h
      simp at h
      exact (ne c c1 h.1).elim
  · by_cases d1 : nmOk d = true
    · rw [if_neg c1, if_pos d1] at h
      simp at h
      exact (ne d d1 h.1.symm).elim
    · rw [if_neg c1, if_neg d1] at h
      simp only [hex, hex1, List.flatMap_cons, List.flatMap_nil, List.append_nil, List.cons_append, List.nil_append, List.cons.injEq, true_and] at h
      obtain ⟨h1, h2, h3⟩ := h
      have g1 := hexD_inj ⟨c.toNat / 16, by omega⟩ ⟨d.toNat / 16, by omega⟩ h1
      have g2 := hexD_inj ⟨c.toNat % 16, by omega⟩ ⟨d.toNat % 16, by omega⟩ h2
      simp only [Fin.mk.injEq] at g1 g2
      exact ⟨UInt8.toNat_inj.1 (by omega), h3⟩
theorem esc_41 (c : UInt8) (z : List UInt8) (h : [41] = esc c ++ z) : False := by
  unfold esc at h
  by_cases c1 : c = 40 ∨ c = 41 ∨ c = 92
  · rw [if_pos c1] at h; simp at h
  · rw [if_neg c1] at h
    by_cases c2 : c.toNat < 32 ∨ 126 < c.toNat
    · rw [if_pos c2] at h; simp [oct] at h
    · rw [if_neg c2] at h
      simp at h
      exact c1 (.inr (.inl h.1.symm))
theorem str_inj {l m : List UInt8} (h : str l = str m) : l = m := by
  unfold str at h
  simp only [List.append_assoc] at h
  have h2 := List.append_cancel_left h
  exact (flat_inj esc_head (fun c => by have := (esc_len c).1; intro e; rw [e] at this; simp at this) l m [41] [41] h2 (fun c z e => esc_41 c z e) (fun c z e => esc_41 c z e)).1
theorem name_inj {l m : List UInt8} (h : name l = name m) : l = m := by
  unfold name at h
  have h2 := List.append_cancel_left h
  have hn : ∀ c, nmc c ≠ [] := fun c => by have := (nmc_len c).1; intro e; rw [e] at this; simp at this
  refine (flat_inj nmc_head hn l m [] [] (by simpa using h2) (fun c z e => ?_) (fun c z e => ?_)).1 <;>
  · have := congrArg List.length e
    have h1 := (nmc_len c).1
    simp at this; omega
/- NUMBERS -/
theorem dec_val : ∀ u : Nat, Fx.val 0 (Lib.decDigits u) = (u : Int) ∧ (Lib.decDigits u).all Fx.isDig = true := by
  intro u
  induction u using Nat.strongRecOn with
  | _ u ih =>
    have dig : ∀ k, k < 10 → Fx.isDig (UInt8.ofNat (48 + k)) = true ∧ ((UInt8.ofNat (48 + k)).toNat : Int) - 48 = (k : Int) := by
      intro k hk
      have e : (UInt8.ofNat (48 + k)).toNat = 48 + k := by rw [UInt8.toNat_ofNat']; omega
      refine ⟨?_, by omega⟩
      unfold Fx.isDig
      rw [e]
      simp only [Bool.and_eq_true, decide_eq_true_eq]
      omega
    rw [Lib.decDigits]
    split
    · rename_i h
      obtain ⟨h1, h2⟩ := dig u h
      refine ⟨?_, by rw [List.all_cons, h1]; rfl⟩
      simp only [Fx.val, List.foldl_cons, List.foldl_nil, h2]
      omega
    · rename_i h
      obtain ⟨i1, i2⟩ := ih (u / 10) (by omega)
      obtain ⟨h1, h2⟩ := dig (u % 10) (by omega)
      refine ⟨?_, by rw [List.all_append, i2, List.all_cons, h1]; rfl⟩
      rw [Fx.val_append, i1]
      simp only [Fx.val, List.foldl_cons, List.foldl_nil, h2]
      omega
theorem itoa_shape (n : Int) : (∃ u : Nat, n = u ∧ Lib.itoa n = Lib.decDigits u) ∨ (∃ u : Nat, n = -(u : Int) ∧ 0 < u ∧ Lib.itoa n = 45 :: Lib.decDigits u) := by
  unfold Lib.itoa
  by_cases h : n < 0
  · rw [if_pos h]; exact .inr ⟨n.natAbs, by omega, by omega, rfl⟩
  · rw [if_neg h]; exact .inl ⟨n.toNat, by omega, rfl⟩
theorem dec_no (u : Nat) (c : UInt8) (hc : Fx.isDig c = false) : c ∉ Lib.decDigits u := fun hm => by
  have := List.all_eq_true.1 (dec_val u).2 c hm
  rw [hc] at this; cases this
theorem dec_inj {u v : Nat} (h : Lib.decDigits u = Lib.decDigits v) : u = v := by
  have h1 := (dec_val u).1
  have h2 := (dec_val v).1
  rw [h] at h1
  omega
theorem itoa_inj {n m : Int} (h : Lib.itoa n = Lib.itoa m) : n = m := by
  rcases itoa_shape n with ⟨u, hu, e1⟩ | ⟨u, hu, _, e1⟩ <;> rcases itoa_shape m with ⟨v, hv, e2⟩ | ⟨v, hv, _, e2⟩ <;> rw [e1, e2] at h
  · have := dec_inj h; omega
  · exact (dec_no u 45 rfl (by rw [h]; simp)).elim
  · exact (dec_no v 45 rfl (by rw [← h]; simp)).elim
  · simp only [List.cons.injEq, true_and] at h
    have := dec_inj h; omega
theorem itoa_no46 (n : Int) : (46 : UInt8) ∉ Lib.itoa n := by
  rcases itoa_shape n with ⟨u, _, e⟩ | ⟨u, _, _, e⟩ <;> rw [e]
  · exact dec_no u 46 rfl
  · simp only [List.mem_cons, not_or]
    exact ⟨by decide, dec_no u 46 rfl⟩
theorem text_has46 {n : Int} (h : Fx.okB n = true) : (46 : UInt8) ∈ Fx.text n := by
  rw [Fx.text, if_pos h]; simp
theorem text_inj {n m : Int} (hn : Fx.okB n = true) (hm : Fx.okB m = true) (h : Fx.text n = Fx.text m) : n = m := by
  have h1 := (Fx.read_text n hn 0 (by omega)).1
  have h2 := (Fx.read_text m hm 0 (by omega)).1
  rw [h, h2] at h1
  injection h1 with h3 _
  exact h3.symm
end Pl
end Go.Proofs.YtihjejmmldpelaaGreatDoor
/- Contracts: the reference's arithmetic. -/
namespace Go.Proofs.YtihjejmmldpelaaGreatDoor
set_option linter.unusedVariables false
set_option linter.unusedSimpArgs false
set_option linter.defProp false
open Eng Go.RowKit
set_option linter.unusedVariables false
set_option linter.unusedSimpArgs false

def Fx.rootP (n : Int) (x : Int × Int) : Prop := if Fx.okB n then (if n < 0 then x = (0, 1) else ∃ r, Fx.isqrt (10000 * n) r ∧ x = (r, 0)) else x = (0, 2)
theorem rootP_unique {n : Int} {x y : Int × Int} (hx : Fx.rootP n x) (hy : Fx.rootP n y) : x = y := by
  unfold Fx.rootP at hx hy
  split at hx
  · rename_i h
    rw [if_pos h] at hy
    split at hx
    · rename_i h2
      rw [if_pos h2] at hy; rw [hx, hy]
    · rename_i h2
      rw [if_neg h2] at hy
      obtain ⟨r, hr, rfl⟩ := hx
      obtain ⟨q, hq, rfl⟩ := hy
      rw [Fx.isqrt_unique hr hq]
  · rename_i h
    rw [if_neg h] at hy; rw [hx, hy]
theorem all_not {zs : List Int} {k : Nat} (hlt : k < zs.length) (h : Fx.okB zs[k] = false) : zs.all Fx.okB = false := by
  cases hh : zs.all Fx.okB with
  | false => rfl
  | true => have := List.all_eq_true.1 hh zs[k] (List.getElem_mem hlt); rw [h] at this; cases this
end Go.Proofs.YtihjejmmldpelaaGreatDoor
/- Code in continuation form, by program (gen.py): 6 functions. -/
namespace Go.Proofs.YtihjejmmldpelaaGreatDoor
set_option linter.unusedVariables false
set_option linter.unusedSimpArgs false
set_option linter.defProp false
set_option linter.unusedVariables false
set_option maxRecDepth 20000
open Eng

/- foliantlaw02.lives -/
/- foliantlaw02.FixTells -/
/- foliantlaw02.FixReckons -/
/- foliantlaw02.FixBack -/
/- foliantlaw02.FixNear -/
/- foliantlaw02.FixTurns -/
end Go.Proofs.YtihjejmmldpelaaGreatDoor
/- The laws of layer 2, walked: lives, FixTells, FixReckons, FixNear. -/
namespace Go.Proofs.YtihjejmmldpelaaGreatDoor
set_option linter.unusedVariables false
set_option linter.unusedSimpArgs false
set_option linter.defProp false
open Eng Go.RowKit
set_option linter.unusedVariables false
set_option linter.unusedSimpArgs false

theorem c_told {P : Program} {f : Nat} {args : Array Value} {w0 w : World} {L : List Ent} {PK : List PanicEntry → World → Prop} {K : Value → World → Prop} {x y : Value} (h : Ret P f args w (fun v w' => v = x ∧ Below w.heap.size w w')) (hx : x = y) (ho : Own w0 w L)
    (k : ∀ w', Own w0 w' L → K y w') : CallX P f args w PK K := by
  refine c_ret h ?_
  rintro v w' ⟨rfl, hb⟩
  rw [hx]; exact k _ (ho.grow hb)
theorem rootP_20000 {x : Int × Int} (h : Fx.rootP 20000 x) : x = (14142, 0) :=
  rootP_unique h (by rw [Fx.rootP, if_pos (by decide), if_neg (by decide)]; exact ⟨14142, ⟨by decide, by decide, by decide⟩, rfl⟩)
abbrev I64 (n : Int) : Prop := -9223372036854775808 ≤ n ∧ n ≤ 9223372036854775807
end Go.Proofs.YtihjejmmldpelaaGreatDoor
/- Code in continuation form, by program (gen.py): 4 functions. -/
namespace Go.Proofs.YtihjejmmldpelaaGreatDoor
set_option linter.unusedVariables false
set_option linter.unusedSimpArgs false
set_option linter.defProp false
set_option linter.unusedVariables false
set_option maxRecDepth 20000
open Eng

/- foliantlaw04.lives -/
def S_foliantlaw04_lives (w : World) (K : Ending → World → Prop) : Prop :=
 CallX Tryz.prog 18 #[(.int .i64 (-7))] w (pk K) fun t20 w =>
 DoX Tryz.prog (mExt t20 0) w (pk K) fun t21 w =>
 DoX Tryz.prog (mExt t20 1) w (pk K) fun t22 w =>
 CallX Tryz.prog 18 #[(.int .i64 2147483648)] w (pk K) fun t24 w =>
 DoX Tryz.prog (mExt t24 0) w (pk K) fun t25 w =>
 DoX Tryz.prog (mExt t24 1) w (pk K) fun t26 w =>
 CallX Tryz.prog 19 #[(.int .i64 (-2500))] w (pk K) fun t28 w =>
 DoX Tryz.prog (mExt t28 0) w (pk K) fun t29 w =>
 DoX Tryz.prog (mExt t28 1) w (pk K) fun t30 w =>
 CallX Tryz.prog 19 #[(.int .i64 1073741825)] w (pk K) fun t32 w =>
 DoX Tryz.prog (mExt t32 0) w (pk K) fun t33 w =>
 DoX Tryz.prog (mExt t32 1) w (pk K) fun t34 w =>
 CallX Tryz.prog 20 #[(.string ⟨#[97, 40, 98, 92, 10]⟩)] w (pk K) fun t36 w =>
 DoX Tryz.prog (mExt t36 0) w (pk K) fun t37 w =>
 DoX Tryz.prog (mExt t36 1) w (pk K) fun t38 w =>
 CallX Tryz.prog 21 #[(.string ⟨#[97, 98]⟩)] w (pk K) fun t40 w =>
 DoX Tryz.prog (mExt t40 0) w (pk K) fun t41 w =>
 DoX Tryz.prog (mExt t40 1) w (pk K) fun t42 w =>
 CallX Tryz.prog 22 #[(.string ⟨#[65, 32, 66, 35]⟩)] w (pk K) fun t44 w =>
 DoX Tryz.prog (mExt t44 0) w (pk K) fun t45 w =>
 DoX Tryz.prog (mExt t44 1) w (pk K) fun t46 w =>
 CallX Tryz.prog 22 #[(.string ⟨#[97, 0]⟩)] w (pk K) fun t48 w =>
 DoX Tryz.prog (mExt t48 0) w (pk K) fun t49 w =>
 DoX Tryz.prog (mExt t48 1) w (pk K) fun t50 w =>
 CallX Tryz.prog 22 #[(.string ⟨#[]⟩)] w (pk K) fun t52 w =>
 DoX Tryz.prog (mExt t52 0) w (pk K) fun t53 w =>
 DoX Tryz.prog (mExt t52 1) w (pk K) fun t54 w =>
 DoX Tryz.prog (mEq .eql 9 (.tmp 55) (.const (.string ⟨#[45, 55]⟩)) t21 (.string ⟨#[45, 55]⟩)) w (pk K) fun t56 w =>
 GDo t56 true (fun E => E t22 w) w fun t58 w =>
 GDo t56 true (fun E => DoX Tryz.prog (mEq .eql 28 (.tmp 58) (.const (.int .i64 0)) t58 (.int .i64 0)) w (pk K) E) w fun t59 w =>
 DoX Tryz.prog (mPick t56 t59 (.bool false)) w (pk K) fun t60 w =>
 GDo t60 true (fun E => E t26 w) w fun t62 w =>
 GDo t60 true (fun E => DoX Tryz.prog (mEq .eql 28 (.tmp 62) (.const (.int .i64 2)) t62 (.int .i64 2)) w (pk K) E) w fun t63 w =>
 DoX Tryz.prog (mPick t60 t63 (.bool false)) w (pk K) fun t64 w =>
 GDo t64 true (fun E => E t29 w) w fun t66 w =>
 GDo t64 true (fun E => DoX Tryz.prog (mEq .eql 9 (.tmp 66) (.const (.string ⟨#[45, 48, 46, 50, 53]⟩)) t66 (.string ⟨#[45, 48, 46, 50, 53]⟩)) w (pk K) E) w fun t67 w =>
 DoX Tryz.prog (mPick t64 t67 (.bool false)) w (pk K) fun t68 w =>
 GDo t68 true (fun E => E t30 w) w fun t70 w =>
 GDo t68 true (fun E => DoX Tryz.prog (mEq .eql 28 (.tmp 70) (.const (.int .i64 0)) t70 (.int .i64 0)) w (pk K) E) w fun t71 w =>
 DoX Tryz.prog (mPick t68 t71 (.bool false)) w (pk K) fun t72 w =>
 GDo t72 true (fun E => E t34 w) w fun t74 w =>
 GDo t72 true (fun E => DoX Tryz.prog (mEq .eql 28 (.tmp 74) (.const (.int .i64 2)) t74 (.int .i64 2)) w (pk K) E) w fun t75 w =>
 DoX Tryz.prog (mPick t72 t75 (.bool false)) w (pk K) fun t76 w =>
 GDo t76 true (fun E => E t37 w) w fun t78 w =>
 GDo t76 true (fun E => DoX Tryz.prog (mEq .eql 9 (.tmp 78) (.const (.string ⟨#[40, 97, 92, 40, 98, 92, 92, 92, 48, 49, 50, 41]⟩)) t78 (.string ⟨#[40, 97, 92, 40, 98, 92, 92, 92, 48, 49, 50, 41]⟩)) w (pk K) E) w fun t79 w =>
 DoX Tryz.prog (mPick t76 t79 (.bool false)) w (pk K) fun t80 w =>
 GDo t80 true (fun E => E t38 w) w fun t82 w =>
 GDo t80 true (fun E => DoX Tryz.prog (mEq .eql 28 (.tmp 82) (.const (.int .i64 0)) t82 (.int .i64 0)) w (pk K) E) w fun t83 w =>
 DoX Tryz.prog (mPick t80 t83 (.bool false)) w (pk K) fun t84 w =>
 GDo t84 true (fun E => E t41 w) w fun t86 w =>
 GDo t84 true (fun E => DoX Tryz.prog (mEq .eql 9 (.tmp 86) (.const (.string ⟨#[60, 54, 49, 54, 50, 62]⟩)) t86 (.string ⟨#[60, 54, 49, 54, 50, 62]⟩)) w (pk K) E) w fun t87 w =>
 DoX Tryz.prog (mPick t84 t87 (.bool false)) w (pk K) fun t88 w =>
 GDo t88 true (fun E => E t42 w) w fun t90 w =>
 GDo t88 true (fun E => DoX Tryz.prog (mEq .eql 28 (.tmp 90) (.const (.int .i64 0)) t90 (.int .i64 0)) w (pk K) E) w fun t91 w =>
 DoX Tryz.prog (mPick t88 t91 (.bool false)) w (pk K) fun t92 w =>
 GDo t92 true (fun E => E t45 w) w fun t94 w =>
 GDo t92 true (fun E => DoX Tryz.prog (mEq .eql 9 (.tmp 94) (.const (.string ⟨#[47, 65, 35, 50, 48, 66, 35, 50, 51]⟩)) t94 (.string ⟨#[47, 65, 35, 50, 48, 66, 35, 50, 51]⟩)) w (pk K) E) w fun t95 w =>
 DoX Tryz.prog (mPick t92 t95 (.bool false)) w (pk K) fun t96 w =>
 GDo t96 true (fun E => E t46 w) w fun t98 w =>
 GDo t96 true (fun E => DoX Tryz.prog (mEq .eql 28 (.tmp 98) (.const (.int .i64 0)) t98 (.int .i64 0)) w (pk K) E) w fun t99 w =>
 DoX Tryz.prog (mPick t96 t99 (.bool false)) w (pk K) fun t100 w =>
 GDo t100 true (fun E => E t50 w) w fun t102 w =>
 GDo t100 true (fun E => DoX Tryz.prog (mEq .eql 28 (.tmp 102) (.const (.int .i64 3)) t102 (.int .i64 3)) w (pk K) E) w fun t103 w =>
 DoX Tryz.prog (mPick t100 t103 (.bool false)) w (pk K) fun t104 w =>
 GDo t104 true (fun E => E t53 w) w fun t106 w =>
 GDo t104 true (fun E => DoX Tryz.prog (mEq .eql 9 (.tmp 106) (.const (.string ⟨#[47]⟩)) t106 (.string ⟨#[47]⟩)) w (pk K) E) w fun t107 w =>
 DoX Tryz.prog (mPick t104 t107 (.bool false)) w (pk K) fun t108 w =>
 GDo t108 true (fun E => E t54 w) w fun t110 w =>
 GDo t108 true (fun E => DoX Tryz.prog (mEq .eql 28 (.tmp 110) (.const (.int .i64 0)) t110 (.int .i64 0)) w (pk K) E) w fun t111 w =>
 DoX Tryz.prog (mPick t108 t111 (.bool false)) w (pk K) fun t112 w =>
 GDo t112 true (fun E => DoX Tryz.prog (mBuildS 22 6 #[(0, (.string ⟨#[49, 50]⟩)), (1, (.string ⟨#[111, 98, 106]⟩)), (2, (.string ⟨#[60, 60]⟩)), (3, (.string ⟨#[47, 65]⟩)), (4, (.string ⟨#[49]⟩)), (5, (.string ⟨#[62, 62]⟩))]) w (pk K) E) w fun t114 w =>
 GDo t112 true (fun E => CallX Tryz.prog 25 #[t114] w (pk K) E) w fun t115 w =>
 GDo t112 true (fun E => DoX Tryz.prog (mEq .eql 9 (.tmp 115) (.const (.string ⟨#[49, 50, 32, 111, 98, 106, 60, 60, 47, 65, 32, 49, 62, 62]⟩)) t115 (.string ⟨#[49, 50, 32, 111, 98, 106, 60, 60, 47, 65, 32, 49, 62, 62]⟩)) w (pk K) E) w fun t116 w =>
 DoX Tryz.prog (mPick t112 t116 (.bool false)) w (pk K) fun t117 w =>
 GDo t117 true (fun E => DoX Tryz.prog (mBuildS 22 3 #[(0, (.string ⟨#[40, 97, 41]⟩)), (1, (.string ⟨#[]⟩)), (2, (.string ⟨#[55]⟩))]) w (pk K) E) w fun t119 w =>
 GDo t117 true (fun E => CallX Tryz.prog 25 #[t119] w (pk K) E) w fun t120 w =>
 GDo t117 true (fun E => DoX Tryz.prog (mEq .eql 9 (.tmp 120) (.const (.string ⟨#[40, 97, 41, 55]⟩)) t120 (.string ⟨#[40, 97, 41, 55]⟩)) w (pk K) E) w fun t121 w =>
 DoX Tryz.prog (mPick t117 t121 (.bool false)) w (pk K) fun t122 w =>
 GDo t122 true (fun E => DoX Tryz.prog (mBuildS 22 2 #[(0, (.string ⟨#[47]⟩)), (1, (.string ⟨#[55]⟩))]) w (pk K) E) w fun t124 w =>
 GDo t122 true (fun E => CallX Tryz.prog 25 #[t124] w (pk K) E) w fun t125 w =>
 GDo t122 true (fun E => DoX Tryz.prog (mEq .eql 9 (.tmp 125) (.const (.string ⟨#[47, 32, 55]⟩)) t125 (.string ⟨#[47, 32, 55]⟩)) w (pk K) E) w fun t126 w =>
 DoX Tryz.prog (mPick t122 t126 (.bool false)) w (pk K) fun t127 w =>
 GDo t127 true (fun E => CallX Tryz.prog 25 #[(.slice none 0 0)] w (pk K) E) w fun t129 w =>
 GDo t127 true (fun E => DoX Tryz.prog (mEq .eql 9 (.tmp 129) (.const (.string ⟨#[]⟩)) t129 (.string ⟨#[]⟩)) w (pk K) E) w fun t130 w =>
 DoX Tryz.prog (mPick t127 t130 (.bool false)) w (pk K) fun t131 w =>
 GDo t131 true (fun E => CallX Tryz.prog 47 #[(.int .i64 42), (.int .i64 5)] w (pk K) E) w fun t133 w =>
 GDo t131 true (fun E => DoX Tryz.prog (mEq .eql 9 (.tmp 133) (.const (.string ⟨#[48, 48, 48, 52, 50]⟩)) t133 (.string ⟨#[48, 48, 48, 52, 50]⟩)) w (pk K) E) w fun t134 w =>
 DoX Tryz.prog (mPick t131 t134 (.bool false)) w (pk K) fun t135 w =>
 GDo t135 true (fun E => CallX Tryz.prog 47 #[(.int .i64 100000), (.int .i64 5)] w (pk K) E) w fun t137 w =>
 GDo t135 true (fun E => DoX Tryz.prog (mEq .eql 9 (.tmp 137) (.const (.string ⟨#[]⟩)) t137 (.string ⟨#[]⟩)) w (pk K) E) w fun t138 w =>
 DoX Tryz.prog (mPick t135 t138 (.bool false)) w (pk K) fun t139 w =>
 GDo t139 true (fun E => CallX Tryz.prog 47 #[(.int .i64 (-1)), (.int .i64 5)] w (pk K) E) w fun t141 w =>
 GDo t139 true (fun E => DoX Tryz.prog (mEq .eql 9 (.tmp 141) (.const (.string ⟨#[]⟩)) t141 (.string ⟨#[]⟩)) w (pk K) E) w fun t142 w =>
 DoX Tryz.prog (mPick t139 t142 (.bool false)) w (pk K) fun t143 w =>
 GDo t143 true (fun E => CallX Tryz.prog 47 #[(.int .i64 1), (.int .i64 21)] w (pk K) E) w fun t145 w =>
 GDo t143 true (fun E => DoX Tryz.prog (mEq .eql 9 (.tmp 145) (.const (.string ⟨#[]⟩)) t145 (.string ⟨#[]⟩)) w (pk K) E) w fun t146 w =>
 DoX Tryz.prog (mPick t143 t146 (.bool false)) w (pk K) fun t147 w =>
 K (.returned t147) w
theorem S_foliantlaw04_lives_eq (w : World) (K : Ending → World → Prop) : wpX Tryz.prog 148 [] [] none (bodyOf Tryz.f17) (topQ Tryz.prog [.tmp 0] K) (startX []) [] w = S_foliantlaw04_lives w K := by kernel_rfl
theorem S_foliantlaw04_lives_ok {w : World} {K : Ending → World → Prop} (h : S_foliantlaw04_lives w K) : Calls Tryz.prog 17 #[] w K :=
  calls_of_wpX Tryz.func17 rfl rfl rfl rfl (Eq.mpr (S_foliantlaw04_lives_eq w K) h)

/- foliantlaw04.PlainTells -/
/- foliantlaw04.PlainOneWay -/
def S_foliantlaw04_PlainOneWay (t0 t1 t2 t3 : Value) (w : World) (K : Ending → World → Prop) : Prop :=
 CallX Tryz.prog 17 #[] w (pk K) fun t25 w =>
 DoX Tryz.prog (mUn .not t25) w (pk K) fun t26 w =>
 IfX t26 (K (.returned (.bool false)) w) (DoX Tryz.prog (mB .len #[9] 3 #[false] #[t2]) w (pk K) fun t28 w =>
 DoX Tryz.prog (mBin .gtr 3 t28 (.int .i64 120)) w (pk K) fun t29 w =>
 GDo t29 false (fun E => E t3 w) w fun t31 w =>
 GDo t29 false (fun E => DoX Tryz.prog (mB .len #[9] 3 #[false] #[t31]) w (pk K) E) w fun t32 w =>
 GDo t29 false (fun E => DoX Tryz.prog (mBin .gtr 3 t32 (.int .i64 120)) w (pk K) E) w fun t33 w =>
 DoX Tryz.prog (mPick t29 (.bool true) t33) w (pk K) fun t34 w =>
 IfX t34 (K (.returned (.bool true)) w) (CallX Tryz.prog 18 #[t0] w (pk K) fun t37 w =>
 DoX Tryz.prog (mExt t37 0) w (pk K) fun t38 w =>
 DoX Tryz.prog (mExt t37 1) w (pk K) fun t39 w =>
 CallX Tryz.prog 18 #[t1] w (pk K) fun t42 w =>
 DoX Tryz.prog (mExt t42 0) w (pk K) fun t43 w =>
 DoX Tryz.prog (mExt t42 1) w (pk K) fun t44 w =>
 CallX Tryz.prog 19 #[t0] w (pk K) fun t47 w =>
 DoX Tryz.prog (mExt t47 0) w (pk K) fun t48 w =>
 DoX Tryz.prog (mExt t47 1) w (pk K) fun t49 w =>
 CallX Tryz.prog 19 #[t1] w (pk K) fun t52 w =>
 DoX Tryz.prog (mExt t52 0) w (pk K) fun t53 w =>
 DoX Tryz.prog (mExt t52 1) w (pk K) fun t54 w =>
 DoX Tryz.prog (mEq .eql 28 (.tmp 55) (.const (.int .i64 0)) t39 (.int .i64 0)) w (pk K) fun t56 w =>
 GDo t56 true (fun E => E t44 w) w fun t58 w =>
 GDo t56 true (fun E => DoX Tryz.prog (mEq .eql 28 (.tmp 58) (.const (.int .i64 0)) t58 (.int .i64 0)) w (pk K) E) w fun t59 w =>
 DoX Tryz.prog (mPick t56 t59 (.bool false)) w (pk K) fun t60 w =>
 GDo t60 true (fun E => E t38 w) w fun t62 w =>
 GDo t60 true (fun E => E t43 w) w fun t63 w =>
 GDo t60 true (fun E => DoX Tryz.prog (mEq .eql 9 (.tmp 62) (.tmp 63) t62 t63) w (pk K) E) w fun t64 w =>
 GDo t60 true (fun E => E t0 w) w fun t65 w =>
 GDo t60 true (fun E => E t1 w) w fun t66 w =>
 GDo t60 true (fun E => DoX Tryz.prog (mEq .eql 2 (.tmp 65) (.tmp 66) t65 t66) w (pk K) E) w fun t67 w =>
 GDo t60 true (fun E => DoX Tryz.prog (mEq .neq 4 (.tmp 64) (.tmp 67) t64 t67) w (pk K) E) w fun t68 w =>
 DoX Tryz.prog (mPick t60 t68 (.bool false)) w (pk K) fun t69 w =>
 GDo t69 false (fun E => E t49 w) w fun t71 w =>
 GDo t69 false (fun E => DoX Tryz.prog (mEq .eql 28 (.tmp 71) (.const (.int .i64 0)) t71 (.int .i64 0)) w (pk K) E) w fun t72 w =>
 GDo t69 false (fun E => E t72 w) w fun t73 w =>
 GDo t73 true (fun E => E t54 w) w fun t74 w =>
 GDo t73 true (fun E => DoX Tryz.prog (mEq .eql 28 (.tmp 74) (.const (.int .i64 0)) t74 (.int .i64 0)) w (pk K) E) w fun t75 w =>
 GDo t69 false (fun E => DoX Tryz.prog (mPick t73 t75 (.bool false)) w (pk K) E) w fun t76 w =>
 GDo t69 false (fun E => E t76 w) w fun t77 w =>
 GDo t77 true (fun E => E t48 w) w fun t78 w =>
 GDo t77 true (fun E => E t53 w) w fun t79 w =>
 GDo t77 true (fun E => DoX Tryz.prog (mEq .eql 9 (.tmp 78) (.tmp 79) t78 t79) w (pk K) E) w fun t80 w =>
 GDo t77 true (fun E => E t0 w) w fun t81 w =>
 GDo t77 true (fun E => E t1 w) w fun t82 w =>
 GDo t77 true (fun E => DoX Tryz.prog (mEq .eql 2 (.tmp 81) (.tmp 82) t81 t82) w (pk K) E) w fun t83 w =>
 GDo t77 true (fun E => DoX Tryz.prog (mEq .neq 4 (.tmp 80) (.tmp 83) t80 t83) w (pk K) E) w fun t84 w =>
 GDo t69 false (fun E => DoX Tryz.prog (mPick t77 t84 (.bool false)) w (pk K) E) w fun t85 w =>
 DoX Tryz.prog (mPick t69 (.bool true) t85) w (pk K) fun t86 w =>
 GDo t86 false (fun E => E t39 w) w fun t88 w =>
 GDo t86 false (fun E => DoX Tryz.prog (mEq .eql 28 (.tmp 88) (.const (.int .i64 0)) t88 (.int .i64 0)) w (pk K) E) w fun t89 w =>
 GDo t86 false (fun E => E t89 w) w fun t90 w =>
 GDo t90 true (fun E => E t54 w) w fun t91 w =>
 GDo t90 true (fun E => DoX Tryz.prog (mEq .eql 28 (.tmp 91) (.const (.int .i64 0)) t91 (.int .i64 0)) w (pk K) E) w fun t92 w =>
 GDo t86 false (fun E => DoX Tryz.prog (mPick t90 t92 (.bool false)) w (pk K) E) w fun t93 w =>
 GDo t86 false (fun E => E t93 w) w fun t94 w =>
 GDo t94 true (fun E => E t38 w) w fun t95 w =>
 GDo t94 true (fun E => E t53 w) w fun t96 w =>
 GDo t94 true (fun E => DoX Tryz.prog (mEq .eql 9 (.tmp 95) (.tmp 96) t95 t96) w (pk K) E) w fun t97 w =>
 GDo t86 false (fun E => DoX Tryz.prog (mPick t94 t97 (.bool false)) w (pk K) E) w fun t98 w =>
 DoX Tryz.prog (mPick t86 (.bool true) t98) w (pk K) fun t99 w =>
 IfX t99 (K (.returned (.bool false)) w) (CallX Tryz.prog 20 #[t2] w (pk K) fun t102 w =>
 DoX Tryz.prog (mExt t102 0) w (pk K) fun t103 w =>
 DoX Tryz.prog (mExt t102 1) w (pk K) fun t104 w =>
 CallX Tryz.prog 20 #[t3] w (pk K) fun t107 w =>
 DoX Tryz.prog (mExt t107 0) w (pk K) fun t108 w =>
 DoX Tryz.prog (mExt t107 1) w (pk K) fun t109 w =>
 CallX Tryz.prog 22 #[t2] w (pk K) fun t112 w =>
 DoX Tryz.prog (mExt t112 0) w (pk K) fun t113 w =>
 DoX Tryz.prog (mExt t112 1) w (pk K) fun t114 w =>
 CallX Tryz.prog 22 #[t3] w (pk K) fun t117 w =>
 DoX Tryz.prog (mExt t117 0) w (pk K) fun t118 w =>
 DoX Tryz.prog (mExt t117 1) w (pk K) fun t119 w =>
 DoX Tryz.prog (mEq .eql 28 (.tmp 120) (.const (.int .i64 0)) t104 (.int .i64 0)) w (pk K) fun t121 w =>
 GDo t121 true (fun E => E t109 w) w fun t123 w =>
 GDo t121 true (fun E => DoX Tryz.prog (mEq .eql 28 (.tmp 123) (.const (.int .i64 0)) t123 (.int .i64 0)) w (pk K) E) w fun t124 w =>
 DoX Tryz.prog (mPick t121 t124 (.bool false)) w (pk K) fun t125 w =>
 GDo t125 true (fun E => E t103 w) w fun t127 w =>
 GDo t125 true (fun E => E t108 w) w fun t128 w =>
 GDo t125 true (fun E => DoX Tryz.prog (mEq .eql 9 (.tmp 127) (.tmp 128) t127 t128) w (pk K) E) w fun t129 w =>
 GDo t125 true (fun E => E t2 w) w fun t130 w =>
 GDo t125 true (fun E => E t3 w) w fun t131 w =>
 GDo t125 true (fun E => DoX Tryz.prog (mEq .eql 9 (.tmp 130) (.tmp 131) t130 t131) w (pk K) E) w fun t132 w =>
 GDo t125 true (fun E => DoX Tryz.prog (mEq .eql 4 (.tmp 129) (.tmp 132) t129 t132) w (pk K) E) w fun t133 w =>
 DoX Tryz.prog (mPick t125 t133 (.bool false)) w (pk K) fun t134 w =>
 GDo t134 true (fun E => E t114 w) w fun t136 w =>
 GDo t134 true (fun E => DoX Tryz.prog (mEq .neq 28 (.tmp 136) (.const (.int .i64 0)) t136 (.int .i64 0)) w (pk K) E) w fun t137 w =>
 GDo t134 true (fun E => E t137 w) w fun t138 w =>
 GDo t138 false (fun E => E t119 w) w fun t139 w =>
 GDo t138 false (fun E => DoX Tryz.prog (mEq .neq 28 (.tmp 139) (.const (.int .i64 0)) t139 (.int .i64 0)) w (pk K) E) w fun t140 w =>
 GDo t134 true (fun E => DoX Tryz.prog (mPick t138 (.bool true) t140) w (pk K) E) w fun t141 w =>
 GDo t134 true (fun E => E t141 w) w fun t142 w =>
 GDo t142 false (fun E => E t113 w) w fun t143 w =>
 GDo t142 false (fun E => E t118 w) w fun t144 w =>
 GDo t142 false (fun E => DoX Tryz.prog (mEq .eql 9 (.tmp 143) (.tmp 144) t143 t144) w (pk K) E) w fun t145 w =>
 GDo t142 false (fun E => E t2 w) w fun t146 w =>
 GDo t142 false (fun E => E t3 w) w fun t147 w =>
 GDo t142 false (fun E => DoX Tryz.prog (mEq .eql 9 (.tmp 146) (.tmp 147) t146 t147) w (pk K) E) w fun t148 w =>
 GDo t142 false (fun E => DoX Tryz.prog (mEq .eql 4 (.tmp 145) (.tmp 148) t145 t148) w (pk K) E) w fun t149 w =>
 GDo t134 true (fun E => DoX Tryz.prog (mPick t142 (.bool true) t149) w (pk K) E) w fun t150 w =>
 DoX Tryz.prog (mPick t134 t150 (.bool false)) w (pk K) fun t151 w =>
 K (.returned t151) w)))
/- foliantlaw04.PlainPads -/
def S_foliantlaw04_PlainPads_0 (t0 t1 t5 t6 t8 : Value) (w : World) (N1 : List Value → World → Prop) (K : Ending → World → Prop) : Prop :=
 DoX Tryz.prog (mB .len #[9] 3 #[false] #[t6]) w (pk K) fun t53 w =>
 DoX Tryz.prog (mBin .sub 3 t1 t53) w (pk K) fun t54 w =>
 DoX Tryz.prog (mBin .lss 3 t8 t54) w (pk K) fun t55 w =>
 GDo t55 true (fun E => E t8 w) w fun t57 w =>
 GDo t55 true (fun E => E t5 w) w fun t58 w =>
 GDo t55 true (fun E => DoX Tryz.prog (mB .len #[9] 3 #[false] #[t58]) w (pk K) E) w fun t59 w =>
 GDo t55 true (fun E => DoX Tryz.prog (mBin .lss 3 t57 t59) w (pk K) E) w fun t60 w =>
 DoX Tryz.prog (mPick t55 t60 (.bool false)) w (pk K) fun t61 w =>
 IfX t61 (DoX Tryz.prog (mIx 9 t5 t8) w (pk K) fun t66 w =>
 DoX Tryz.prog (mEq .neq 5 (.tmp 66) (.const (.int .u8 48)) t66 (.int .u8 48)) w (pk K) fun t67 w =>
 IfX t67 (K (.returned (.bool false)) w) (DoX Tryz.prog (mBin .add 3 t8 (.int .i64 1)) w (pk K) fun t63 w =>
 N1 [t63] w)) (DoX Tryz.prog (mB .len #[9] 3 #[false] #[t5]) w (pk K) fun t69 w =>
 DoX Tryz.prog (mEq .eql 3 (.tmp 69) (.tmp 70) t69 t1) w (pk K) fun t71 w =>
 GDo t71 true (fun E => E t5 w) w fun t73 w =>
 GDo t71 true (fun E => E t1 w) w fun t74 w =>
 GDo t71 true (fun E => E t6 w) w fun t75 w =>
 GDo t71 true (fun E => DoX Tryz.prog (mB .len #[9] 3 #[false] #[t75]) w (pk K) E) w fun t76 w =>
 GDo t71 true (fun E => DoX Tryz.prog (mBin .sub 3 t74 t76) w (pk K) E) w fun t77 w =>
 GDo t71 true (fun E => DoX Tryz.prog (mSlice 9 t73 (some t77) none none) w (pk K) E) w fun t78 w =>
 GDo t71 true (fun E => E t6 w) w fun t79 w =>
 GDo t71 true (fun E => DoX Tryz.prog (mEq .eql 9 (.tmp 78) (.tmp 79) t78 t79) w (pk K) E) w fun t80 w =>
 DoX Tryz.prog (mPick t71 t80 (.bool false)) w (pk K) fun t81 w =>
 GDo t81 true (fun E => E t0 w) w fun t83 w =>
 GDo t81 true (fun E => E t1 w) w fun t84 w =>
 GDo t81 true (fun E => DoX Tryz.prog (mBin .add 3 t84 (.int .i64 1)) w (pk K) E) w fun t85 w =>
 GDo t81 true (fun E => CallX Tryz.prog 47 #[t83, t85] w (pk K) E) w fun t86 w =>
 GDo t81 true (fun E => E t5 w) w fun t87 w =>
 GDo t81 true (fun E => DoX Tryz.prog (mBin .add 9 (.string ⟨#[48]⟩) t87) w (pk K) E) w fun t88 w =>
 GDo t81 true (fun E => DoX Tryz.prog (mEq .eql 9 (.tmp 86) (.tmp 88) t86 t88) w (pk K) E) w fun t89 w =>
 DoX Tryz.prog (mPick t81 t89 (.bool false)) w (pk K) fun t90 w =>
 K (.returned t90) w)
def S_foliantlaw04_PlainPads (t0 t1 : Value) (w : World) (K : Ending → World → Prop) : Prop :=
 CallX Tryz.prog 17 #[] w (pk K) fun t9 w =>
 DoX Tryz.prog (mUn .not t9) w (pk K) fun t10 w =>
 IfX t10 (K (.returned (.bool false)) w) (CallX Tryz.prog 47 #[t0, t1] w (pk K) fun t13 w =>
 DoX Tryz.prog (mBin .lss 3 t0 (.int .i64 0)) w (pk K) fun t15 w =>
 GDo t15 false (fun E => E t0 w) w fun t17 w =>
 GDo t15 false (fun E => DoX Tryz.prog (mBin .gtr 3 t17 (.int .i64 2147483647)) w (pk K) E) w fun t18 w =>
 DoX Tryz.prog (mPick t15 (.bool true) t18) w (pk K) fun t19 w =>
 GDo t19 false (fun E => E t1 w) w fun t21 w =>
 GDo t19 false (fun E => DoX Tryz.prog (mBin .lss 3 t21 (.int .i64 1)) w (pk K) E) w fun t22 w =>
 DoX Tryz.prog (mPick t19 (.bool true) t22) w (pk K) fun t23 w =>
 GDo t23 false (fun E => E t1 w) w fun t25 w =>
 GDo t23 false (fun E => DoX Tryz.prog (mBin .gtr 3 t25 (.int .i64 19)) w (pk K) E) w fun t26 w =>
 DoX Tryz.prog (mPick t23 (.bool true) t26) w (pk K) fun t27 w =>
 IfX t27 (DoX Tryz.prog (mB .len #[9] 3 #[false] #[t13]) w (pk K) fun t29 w =>
 DoX Tryz.prog (mBin .leq 3 t29 (.int .i64 20)) w (pk K) fun t30 w =>
 K (.returned t30) w) (CallX Tryz.prog 18 #[t0] w (pk K) fun t33 w =>
 DoX Tryz.prog (mExt t33 0) w (pk K) fun t34 w =>
 DoX Tryz.prog (mExt t33 1) w (pk K) fun t35 w =>
 DoX Tryz.prog (mEq .neq 28 (.tmp 36) (.const (.int .i64 0)) t35 (.int .i64 0)) w (pk K) fun t37 w =>
 GDo t37 false (fun E => E t34 w) w fun t39 w =>
 GDo t37 false (fun E => DoX Tryz.prog (mB .len #[9] 3 #[false] #[t39]) w (pk K) E) w fun t40 w =>
 GDo t37 false (fun E => E t1 w) w fun t41 w =>
 GDo t37 false (fun E => DoX Tryz.prog (mBin .gtr 3 t40 t41) w (pk K) E) w fun t42 w =>
 DoX Tryz.prog (mPick t37 (.bool true) t42) w (pk K) fun t43 w =>
 IfX t43 (DoX Tryz.prog (mEq .eql 28 (.tmp 44) (.const (.int .i64 0)) t35 (.int .i64 0)) w (pk K) fun t45 w =>
 GDo t45 true (fun E => E t13 w) w fun t47 w =>
 GDo t45 true (fun E => DoX Tryz.prog (mEq .eql 9 (.tmp 47) (.const (.string ⟨#[]⟩)) t47 (.string ⟨#[]⟩)) w (pk K) E) w fun t48 w =>
 DoX Tryz.prog (mPick t45 t48 (.bool false)) w (pk K) fun t49 w =>
 K (.returned t49) w) (LoopX [(.int .i64 0)] w (fun vs1 w N1 => ∀ _ : Sg, S_foliantlaw04_PlainPads_0 t0 t1 t13 t34 (vs1.getD 0 undef) w N1 K))))
end Go.Proofs.YtihjejmmldpelaaGreatDoor
/- The laws of layer 4, walked: lives. -/
namespace Go.Proofs.YtihjejmmldpelaaGreatDoor
set_option linter.unusedVariables false
set_option linter.unusedSimpArgs false
set_option linter.defProp false
open Eng Go.RowKit

theorem Tb.mono {w w' : World} (h : Tb w) (hb : Below w.heap.size w w') : Tb w' :=
  Go.Joins.tab_stays (show Tryz.prog.globalNamed "internal/strconv.uint64pow10" = some 0 by kernel_rfl) h hb (Nat.le_refl _)
theorem Tb.own {w w' : World} {L : List Ent} (h : Tb w) (ho : Own w w' L) : Tb w' := h.mono ho.done
def tupV (x : List UInt8 × Int) : Value := .tuple #[.string ⟨x.1.toArray⟩, .int .i64 x.2]
theorem plives_ret (w : World) (ht : Tb w) : Ret Tryz.prog 17 #[] w (fun v w' => v = .bool true ∧ Below w.heap.size w w') := by
  refine ret_of fun K hK => S_foliantlaw04_lives_ok ?_
  unfold S_foliantlaw04_lives
  refine c_told (pint_ret (-7) w ht) (show _ = tupV ([45, 55], 0) by rw [show Pl.pInt (-7) = ([45, 55], 0) by decide +kernel]; rfl) (Own.start w) fun w1 h1 => ?_
  simp only [tupV, ex]
  refine c_told (pint_ret 2147483648 w1 (ht.own h1)) (show _ = tupV ([], 2) by rw [show Pl.pInt 2147483648 = ([], 2) by decide +kernel]; rfl) h1 fun w2 h2 => ?_
  simp only [tupV, ex]
  refine c_told (preal_ret (-2500) w2) (show _ = tupV ([45, 48, 46, 50, 53], 0) by rw [show Pl.pReal (-2500) = ([45, 48, 46, 50, 53], 0) by decide +kernel]; rfl) h2 fun w3 h3 => ?_
  simp only [tupV, ex]
  refine c_told (preal_ret 1073741825 w3) (show _ = tupV ([], 2) by rw [show Pl.pReal 1073741825 = ([], 2) by decide +kernel]; rfl) h3 fun w4 h4 => ?_
  simp only [tupV, ex]
  refine c_told (pstr_ret [97, 40, 98, 92, 10] w4 (by decide)) (show _ = tupV ([40, 97, 92, 40, 98, 92, 92, 92, 48, 49, 50, 41], 0) by rw [show Pl.pStr [97, 40, 98, 92, 10] = ([40, 97, 92, 40, 98, 92, 92, 92, 48, 49, 50, 41], 0) by decide +kernel]; rfl) h4 fun w5 h5 => ?_
  simp only [tupV, ex]
  refine c_told (phex_ret [97, 98] w5 (by decide)) (show _ = tupV ([60, 54, 49, 54, 50, 62], 0) by rw [show Pl.pHex [97, 98] = ([60, 54, 49, 54, 50, 62], 0) by decide +kernel]; rfl) h5 fun w6 h6 => ?_
  simp only [tupV, ex]
  refine c_told (pname_ret [65, 32, 66, 35] w6) (show _ = tupV ([47, 65, 35, 50, 48, 66, 35, 50, 51], 0) by rw [show Pl.pName [65, 32, 66, 35] = ([47, 65, 35, 50, 48, 66, 35, 50, 51], 0) by decide +kernel]; rfl) h6 fun w7 h7 => ?_
  simp only [tupV, ex]
  refine c_told (pname_ret [97, 0] w7) (show _ = tupV ([], 3) by rw [show Pl.pName [97, 0] = ([], 3) by decide +kernel]; rfl) h7 fun w8 h8 => ?_
  simp only [tupV, ex]
  refine c_told (pname_ret [] w8) (show _ = tupV ([47], 0) by rw [show Pl.pName [] = ([47], 0) by decide +kernel]; rfl) h8 fun w9 h9 => ?_
  simp only [tupV, ex]
  simp only [rs, eq_self, decide_true]
  refine o_new (fun b => .slice (some ⟨b, 0, none⟩) 6 6) (strsV [[49, 50], [111, 98, 106], [60, 60], [47, 65], [49], [62, 62]]) 9 (fun _ => by kernel_rfl) h9 fun b9 w10 h10 => ?_
  refine c_told (pjoin_ret [[49, 50], [111, 98, 106], [60, 60], [47, 65], [49], [62, 62]] _ w10 (h10.sl 0 rfl 1 6 6 rfl) (by decide)) (show _ = .string ⟨([49, 50, 32, 111, 98, 106, 60, 60, 47, 65, 32, 49, 62, 62] : List UInt8).toArray⟩ by rw [show Pl.join [[49, 50], [111, 98, 106], [60, 60], [47, 65], [49], [62, 62]] = [49, 50, 32, 111, 98, 106, 60, 60, 47, 65, 32, 49, 62, 62] by decide +kernel]) h10.tail fun w11 h11 => ?_
  simp only [rs, eq_self, decide_true]
  refine o_new (fun b => .slice (some ⟨b, 0, none⟩) 3 3) (strsV [[40, 97, 41], [], [55]]) 9 (fun _ => by kernel_rfl) h11 fun b11 w12 h12 => ?_
  refine c_told (pjoin_ret [[40, 97, 41], [], [55]] _ w12 (h12.sl 0 rfl 1 3 3 rfl) (by decide)) (show _ = .string ⟨([40, 97, 41, 55] : List UInt8).toArray⟩ by rw [show Pl.join [[40, 97, 41], [], [55]] = [40, 97, 41, 55] by decide +kernel]) h12.tail fun w13 h13 => ?_
  simp only [rs, eq_self, decide_true]
  refine o_new (fun b => .slice (some ⟨b, 0, none⟩) 2 2) (strsV [[47], [55]]) 9 (fun _ => by kernel_rfl) h13 fun b13 w14 h14 => ?_
  refine c_told (pjoin_ret [[47], [55]] _ w14 (h14.sl 0 rfl 1 2 2 rfl) (by decide)) (show _ = .string ⟨([47, 32, 55] : List UInt8).toArray⟩ by rw [show Pl.join [[47], [55]] = [47, 32, 55] by decide +kernel]) h14.tail fun w15 h15 => ?_
  simp only [rs, eq_self, decide_true]
  refine c_told (pjoin_ret [] _ w15 (Sl.nil _ _ _) (by decide)) (show _ = .string ⟨([] : List UInt8).toArray⟩ by rfl) h15 fun w16 h16 => ?_
  simp only [rs, eq_self, decide_true]
  refine c_told (ppad_ret (42) 5 (by decide) (by decide) (by decide) (by decide) w16 (ht.own h16)) (show _ = .string ⟨([48, 48, 48, 52, 50] : List UInt8).toArray⟩ by rw [show Pl.pad (42) 5 = [48, 48, 48, 52, 50] by decide +kernel]) h16 fun w17 h17 => ?_
  simp only [rs, eq_self, decide_true]
  refine c_told (ppad_ret (100000) 5 (by decide) (by decide) (by decide) (by decide) w17 (ht.own h17)) (show _ = .string ⟨([] : List UInt8).toArray⟩ by rw [show Pl.pad (100000) 5 = [] by decide +kernel]) h17 fun w18 h18 => ?_
  simp only [rs, eq_self, decide_true]
  refine c_told (ppad_ret (-1) 5 (by decide) (by decide) (by decide) (by decide) w18 (ht.own h18)) (show _ = .string ⟨([] : List UInt8).toArray⟩ by rw [show Pl.pad (-1) 5 = [] by decide +kernel]) h18 fun w19 h19 => ?_
  simp only [rs, eq_self, decide_true]
  refine c_told (ppad_ret (1) 21 (by decide) (by decide) (by decide) (by decide) w19 (ht.own h19)) (show _ = .string ⟨([] : List UInt8).toArray⟩ by rw [show Pl.pad (1) 21 = [] by decide +kernel]) h19 fun w20 h20 => ?_
  simp only [rs, eq_self, decide_true]
  exact hK _ _ ⟨rfl, h20.done⟩
end Go.Proofs.YtihjejmmldpelaaGreatDoor
/- Plain mathematics of layer 3: whole numbers from their digits; strings from hexadecimal and octal digits. -/
namespace Go.Proofs.YtihjejmmldpelaaGreatDoor
set_option linter.unusedVariables false
set_option linter.unusedSimpArgs false
set_option linter.defProp false
open Go
namespace Lx
open Oc
theorem all8 {p : UInt8 → Prop} (h : ∀ n : Fin 256, p (UInt8.ofNat n.val)) (c : UInt8) : p c := by
  have := h ⟨c.toNat, c.toNat_lt⟩
  simpa using this
theorem regular_ne (c : UInt8) : regular c = true → white c = false ∧ c ≠ 37 ∧ ¬ (c = 91 ∨ c = 93 ∨ c = 123 ∨ c = 125) ∧ c ≠ 60 ∧ c ≠ 62 ∧ c ≠ 47 ∧ c ≠ 40 ∧ c ≠ 41 := by
  refine all8 (p := fun c => regular c = true → white c = false ∧ c ≠ 37 ∧ ¬ (c = 91 ∨ c = 93 ∨ c = 123 ∨ c = 125) ∧ c ≠ 60 ∧ c ≠ 62 ∧ c ≠ 47 ∧ c ≠ 40 ∧ c ≠ 41) ?_ c
  decide +kernel
theorem dig_reg (c : UInt8) : dig c = true → regular c = true ∧ sgn c = false ∧ c ≠ 45 := by
  refine all8 (p := fun c => dig c = true → regular c = true ∧ sgn c = false ∧ c ≠ 45) ?_ c
  decide +kernel
theorem val_cons (n : Nat) (c : UInt8) (l : List UInt8) : val n (c :: l) = val (10 * n + (c.toNat - 48)) l := by simp only [val, List.foldl_cons]
theorem val_shift (l : List UInt8) : ∀ n : Nat, val n l = n * 10 ^ l.length + val 0 l := by
  induction l with
  | nil => intro n; simp [val]
  | cons c l ih =>
    intro n
    rw [val_cons, val_cons, ih (10 * n + (c.toNat - 48)), ih (10 * 0 + (c.toNat - 48)), List.length_cons, Nat.pow_succ, Nat.add_mul]
    have : 10 * n * 10 ^ l.length = n * (10 ^ l.length * 10) := by rw [Nat.mul_comm (10 ^ l.length) 10, ← Nat.mul_assoc, Nat.mul_comm n 10]
    rw [this, Nat.mul_zero, Nat.zero_add, Nat.add_assoc]
theorem val_front (c : UInt8) (l : List UInt8) : val 0 (c :: l) = (c.toNat - 48) * 10 ^ l.length + val 0 l := by
  rw [val_cons, val_shift]; simp
theorem runF_app : ∀ (t : List UInt8) (c : UInt8) (r : List UInt8), t.all regular = true → regular c = false → runF (t ++ c :: r) = t.length
  | [], c, r, _, h => by simp [runF, h]
  | x :: t, c, r, h, hc => by
    simp only [List.all_cons, Bool.and_eq_true] at h
    rw [List.cons_append, runF, if_pos h.1, runF_app t c r h.2 hc, List.length_cons]; omega
theorem token_word {s : List UInt8} {a : Nat} {c : UInt8} {t : List UInt8} (hd : s.drop a = c :: t) (h : regular c = true) : token s a = word s a := by
  obtain ⟨_, _, h1, h2, h3, h4, h5, h6⟩ := regular_ne c h
  rw [token, hd]
  simp only [if_neg h1, if_neg h2, if_neg h3, if_neg h4, if_neg h5, if_neg h6]
theorem all_reg {ds : List UInt8} (h : ds.all dig = true) : ds.all regular = true := by
  rw [List.all_eq_true] at h ⊢
  exact fun c hc => (dig_reg c (h c hc)).1
theorem unsign_num {sg ds : List UInt8} (hs : sg = [] ∨ sg = [45]) (h : ds.all dig = true) : unsign (sg ++ ds) = ds := by
  rcases hs with rfl | rfl
  · cases ds with
    | nil => rfl
    | cons c t =>
      simp only [List.all_cons, Bool.and_eq_true] at h
      rw [List.nil_append, unsign, (dig_reg c h.1).2.1]; rfl
  · rfl
theorem num_next {sg ds : List UInt8} (hs : sg = [] ∨ sg = [45]) (hd : ds.all dig = true) (hne : ds ≠ []) : next ([10] ++ sg ++ ds ++ [47]) 0 = if 2147483647 < val 0 ds then refused 2 else (⟨1, 1, (1 + sg.length + ds.length : Nat), if sg = [] then (val 0 ds : Int) else -(val 0 ds : Int), []⟩, 0) := by
  have ht : (sg ++ ds).all regular = true := by
    rw [List.all_append, all_reg hd, Bool.and_true]
    rcases hs with rfl | rfl <;> rfl
  have hu := unsign_num hs hd
  have hhead : (sg ++ ds).head? = some 45 ↔ sg = [45] := by
    rcases hs with rfl | rfl
    · cases ds with
      | nil => exact absurd rfl hne
      | cons c t =>
        simp only [List.all_cons, Bool.and_eq_true] at hd
        simp [(dig_reg c hd.1).2.2]
    · simp
  have hlen : (sg ++ ds).length = sg.length + ds.length := List.length_append
  have htn : sg ++ ds ≠ [] := by simp [hne]
  have hS : [10] ++ sg ++ ds ++ [47] = 10 :: ((sg ++ ds) ++ [47]) := by simp
  rw [hS]
  generalize sg ++ ds = t at *
  cases t with
  | nil => exact absurd rfl htn
  | cons c r =>
    have hc : regular c = true := by simp only [List.all_cons, Bool.and_eq_true] at ht; exact ht.1
    obtain ⟨hw, h37, _⟩ := regular_ne c hc
    have hd1 : (10 :: (c :: r ++ [47])).drop 1 = c :: r ++ 47 :: [] := rfl
    have hsk : skip (10 :: (c :: r ++ [47])) 0 = 1 := by
      unfold skip
      rw [List.drop_zero, skipF, if_neg (by decide), if_pos (by decide), List.cons_append, skipF, if_neg h37, if_neg (by rw [hw]; decide)]
    have hrun : run (10 :: (c :: r ++ [47])) 1 = 1 + (c :: r).length := by
      unfold run
      rw [hd1, runF_app _ _ _ ht (by decide)]
    have hcut : cut (10 :: (c :: r ++ [47])) 1 (1 + (c :: r).length) = c :: r := by
      unfold cut
      rw [hd1, Nat.add_sub_cancel_left, List.take_left']
      rfl
    unfold next
    rw [if_neg (by simp only [List.length_cons]; omega), Int.toNat_zero, hsk, token_word hd1 hc, word, hrun, hcut]
    have hI : intForm (c :: r) = true := by
      unfold intForm
      rw [hu, hd]
      cases ds with
      | nil => exact absurd rfl hne
      | cons => rfl
    rw [wordT, if_pos hI]
    unfold whole
    rw [hu]
    by_cases hb : 2147483647 < val 0 ds
    · rw [if_pos hb, if_pos hb, if_pos (by decide)]
    · rw [if_neg hb, if_neg hb, if_neg (by simp)]
      refine Prod.ext (Tok.mk.injEq .. ▸ ⟨rfl, rfl, ?_, ?_, rfl⟩) rfl
      · rw [hlen]; omega
      · simp only
        rcases hs with rfl | rfl
        · rw [if_neg (by rw [hhead]; simp), if_pos rfl]
        · rw [if_pos (by rw [hhead]), if_neg (by simp)]
end Lx
end Go.Proofs.YtihjejmmldpelaaGreatDoor
/- Plain mathematics of layers 3 and 4: every encoding is one token; strings from hexadecimal and octal digits. -/
namespace Go.Proofs.YtihjejmmldpelaaGreatDoor
set_option linter.unusedVariables false
set_option linter.unusedSimpArgs false
set_option linter.defProp false
open Go
namespace Lx
open Oc
theorem word_next {t : List UInt8} (h : t ≠ []) (hr : t.all regular = true) : next t 0 = wordT t 0 t.length := by
  cases t with
  | nil => exact absurd rfl h
  | cons c r =>
    have hc : regular c = true := by simp only [List.all_cons, Bool.and_eq_true] at hr; exact hr.1
    obtain ⟨hw, h37, _⟩ := regular_ne c hc
    have hsk : skip (c :: r) 0 = 0 := by
      unfold skip
      rw [List.drop_zero, skipF, if_neg h37, if_neg (by rw [hw]; decide)]
    have all_run : ∀ l : List UInt8, l.all regular = true → runF l = l.length := by
      intro l
      induction l with
      | nil => intro _; rfl
      | cons d l ih =>
        intro hl
        simp only [List.all_cons, Bool.and_eq_true] at hl
        rw [runF, if_pos hl.1, ih hl.2, List.length_cons]; omega
    have hrun : run (c :: r) 0 = (c :: r).length := by
      unfold run
      rw [List.drop_zero, all_run _ hr, Nat.zero_add]
    unfold next
    rw [if_neg (by omega), Int.toNat_zero, hsk, token_word (List.drop_zero) hc, word, hrun, cut_full]; rfl
theorem val_fx : ∀ (l : List UInt8) (n : Nat), l.all dig = true → ((val n l : Nat) : Int) = Fx.val n l
  | [], n, _ => rfl
  | c :: l, n, h => by
    simp only [List.all_cons, Bool.and_eq_true] at h
    have hc : 48 ≤ c.toNat := by have := h.1; simp only [dig, Bool.and_eq_true, decide_eq_true_eq] at this; omega
    rw [val_cons, Fx.val_cons, val_fx l _ h.2]
    congr 1
    omega
theorem itoa_next {n : Int} (h1 : -2147483647 ≤ n) (h2 : n ≤ 2147483647) : next (Lib.itoa n) 0 = (⟨1, 0, (Lib.itoa n).length, n, []⟩, 0) := by
  have dec : ∀ u : Nat, (Lib.decDigits u).all dig = true ∧ val 0 (Lib.decDigits u) = u ∧ Lib.decDigits u ≠ [] := by
    intro u
    obtain ⟨d1, d2⟩ := Pl.dec_val u
    refine ⟨d2, by have := val_fx (Lib.decDigits u) 0 d2; rw [show ((0 : Nat) : Int) = 0 from rfl, d1] at this; omega, fun e => ?_⟩
    have := Lib.decDigits_length u
    rw [e] at this
    have h1 : 1 ≤ Lib.nDigits u := by unfold Lib.nDigits; split <;> omega
    simp at this; omega
  have go : ∀ (sg : List UInt8) (u : Nat), (sg = [] ∨ sg = [45]) → u ≤ 2147483647 → n = (if sg = [] then (u : Int) else -(u : Int)) → Lib.itoa n = sg ++ Lib.decDigits u → next (Lib.itoa n) 0 = (⟨1, 0, (Lib.itoa n).length, n, []⟩, 0) := by
    intro sg u hs hu hn he
    obtain ⟨d1, d2, d3⟩ := dec u
    have ht : (sg ++ Lib.decDigits u).all regular = true := by
      rw [List.all_append, all_reg d1, Bool.and_true]
      rcases hs with rfl | rfl <;> rfl
    rw [he, word_next (by simp [d3]) ht, wordT]
    have hus := unsign_num hs d1
    have hI : intForm (sg ++ Lib.decDigits u) = true := by
      unfold intForm
      rw [hus, d1]
      cases hd : Lib.decDigits u with
      | nil => exact absurd hd d3
      | cons => rfl
    have hhead : (sg ++ Lib.decDigits u).head? = some 45 ↔ sg = [45] := by
      rcases hs with rfl | rfl
      · cases hd : Lib.decDigits u with
        | nil => exact absurd hd d3
        | cons c t =>
          rw [hd] at d1
          simp only [List.all_cons, Bool.and_eq_true] at d1
          simp [(dig_reg c d1.1).2.2]
      · simp
    have hW : whole (sg ++ Lib.decDigits u) = (n, 0) := by
      unfold whole
      rw [hus, d2, if_neg (by omega)]
      rcases hs with rfl | rfl
      · rw [if_neg (by rw [hhead]; simp), hn, if_pos rfl]
      · rw [if_pos (by rw [hhead]), hn, if_neg (by simp)]
    rw [if_pos hI, hW, if_neg (by simp)]
  rcases Pl.itoa_shape n with ⟨u, hu, e⟩ | ⟨u, hu, hp, e⟩
  · exact go [] u (.inl rfl) (by omega) (by simpa using hu) (by simpa using e)
  · exact go [45] u (.inr rfl) (by omega) (by simpa using hu) (by simpa using e)
theorem dig_all_reg {l : List UInt8} (h : l.all Fx.isDig = true) : l.all regular = true := all_reg h
theorem text_next {n : Int} (h : Fx.okB n = true) : next (Fx.text n) 0 = (⟨2, 0, (Fx.text n).length, n, []⟩, 0) := by
  have h46 := Pl.text_has46 h
  have hr : (Fx.text n).all regular = true := by
    rw [Fx.text, if_pos h, List.all_append, List.all_append, List.all_append, dig_all_reg (Fx.row_all _ _)]
    obtain ⟨j, _, hf⟩ := Fx.fpart_rep n.natAbs
    rw [hf, List.all_append, dig_all_reg (Fx.tr_all (Fx.row_all _ _)), dig_all_reg (Fx.rep_all _)]
    split <;> rfl
  have hread : Fx.read (Fx.text n) = (n, 0) := by
    have := (Fx.read_text n h 0 (by omega)).1
    simpa using this
  have hne : Fx.text n ≠ [] := by intro e; rw [e] at h46; cases h46
  rw [word_next hne hr, wordT]
  have hI : intForm (Fx.text n) = false := by
    unfold intForm
    rw [Bool.and_eq_false_iff]
    right
    have hm : (46 : UInt8) ∈ unsign (Fx.text n) := by
      cases ht : Fx.text n with
      | nil => exact absurd ht hne
      | cons c t =>
        rw [ht] at h46
        rw [unsign]
        split
        · rename_i hs
          rcases List.mem_cons.1 h46 with e | e
          · rw [← e] at hs; cases hs
          · exact e
        · exact h46
    rw [List.all_eq_false]
    exact ⟨46, hm, by decide⟩
  rw [hI, hread]
  simp only [Bool.false_eq_true, if_false]
  rw [if_pos ⟨by simpa using h46, trivial⟩]
/- STRINGS -/
theorem oct_facts (c : UInt8) : oct (UInt8.ofNat (48 + c.toNat / 64)) = true ∧ oct (UInt8.ofNat (48 + c.toNat / 8 % 8)) = true ∧ oct (UInt8.ofNat (48 + c.toNat % 8)) = true ∧ escL (UInt8.ofNat (48 + c.toNat / 64)) = none ∧ eol (UInt8.ofNat (48 + c.toNat / 64)) = false
    ∧ UInt8.ofNat (8 * (8 * (8 * 0 + ((UInt8.ofNat (48 + c.toNat / 64)).toNat - 48)) + ((UInt8.ofNat (48 + c.toNat / 8 % 8)).toNat - 48)) + ((UInt8.ofNat (48 + c.toNat % 8)).toNat - 48)) = c := by
  refine all8 (p := fun c => oct (UInt8.ofNat (48 + c.toNat / 64)) = true ∧ oct (UInt8.ofNat (48 + c.toNat / 8 % 8)) = true ∧ oct (UInt8.ofNat (48 + c.toNat % 8)) = true ∧ escL (UInt8.ofNat (48 + c.toNat / 64)) = none ∧ eol (UInt8.ofNat (48 + c.toNat / 64)) = false
    ∧ UInt8.ofNat (8 * (8 * (8 * 0 + ((UInt8.ofNat (48 + c.toNat / 64)).toNat - 48)) + ((UInt8.ofNat (48 + c.toNat / 8 % 8)).toNat - 48)) + ((UInt8.ofNat (48 + c.toNat % 8)).toNat - 48)) = c) ?_ c
  decide +kernel
theorem escF_oct (c : UInt8) (t : List UInt8) : escF (UInt8.ofNat (48 + c.toNat / 64) :: UInt8.ofNat (48 + c.toNat / 8 % 8) :: UInt8.ofNat (48 + c.toNat % 8) :: t) = ([c], 3) := by
  obtain ⟨h1, h2, h3, h4, h5, h6⟩ := oct_facts c
  generalize UInt8.ofNat (48 + c.toNat / 64) = x at *
  generalize UInt8.ofNat (48 + c.toNat / 8 % 8) = y at *
  generalize UInt8.ofNat (48 + c.toNat % 8) = z at *
  have ho : octF 3 0 (x :: y :: z :: t) = (8 * (8 * (8 * 0 + (x.toNat - 48)) + (y.toNat - 48)) + (z.toNat - 48), 3) := by
    simp only [octF, h1, h2, h3, if_true]
  simp only [escF, h4, h5, ho, Bool.false_eq_true, if_false]
  rw [if_pos (by omega), h6]
/-- A backslash and three octal digits. -/
theorem textG_oct (c : UInt8) (o : Nat) (t : List UInt8) : textG 0 o (Pl.oct c ++ t) = (textG 0 o t).map fun r => (c :: r.1, r.2 + 4) := by
  unfold Pl.oct
  rw [List.cons_append, textG, if_neg (by decide), if_pos rfl, if_neg (by simp)]
  simp only [List.cons_append, List.nil_append]
  rw [escF_oct, textG_skip 3 o _ (by simp), Option.map_map]
  simp only [List.drop_succ_cons, List.drop_zero]
  congr 1
theorem textG_octs (o : Nat) : ∀ (l t : List UInt8), textG 0 o (l.flatMap Pl.oct ++ t) = (textG 0 o t).map fun r => (l ++ r.1, r.2 + 4 * l.length)
  | [], t => by simp
  | c :: l, t => by
    rw [List.flatMap_cons, List.append_assoc, textG_oct, textG_octs o l t, Option.map_map]
    congr 1
theorem textG_esc (c : UInt8) (t : List UInt8) : textG 0 1 (Pl.esc c ++ t) = (textG 0 1 t).map fun r => (c :: r.1, r.2 + (Pl.esc c).length) := by
  unfold Pl.esc
  by_cases h1 : c = 40 ∨ c = 41 ∨ c = 92
  · rw [if_pos h1]
    have hl : escL c = none := by rcases h1 with rfl | rfl | rfl <;> rfl
    have he : eol c = false := by rcases h1 with rfl | rfl | rfl <;> rfl
    have ho : oct c = false := by rcases h1 with rfl | rfl | rfl <;> rfl
    have hE : escF (c :: t) = ([c], 1) := by
      have h0 : octF 3 0 (c :: t) = (0, 0) := by simp only [octF, ho, Bool.false_eq_true, if_false]
      simp only [escF, hl, he, h0, Bool.false_eq_true, if_false]
      rw [if_neg (by omega)]
    rw [List.cons_append, List.cons_append, List.nil_append, textG, if_neg (by decide), if_pos rfl, if_neg (by simp), hE, textG_skip 1 1 _ (by simp), Option.map_map]
    simp only [List.drop_succ_cons, List.drop_zero]
    congr 1
  · rw [if_neg h1]
    by_cases h2 : c.toNat < 32 ∨ 126 < c.toNat
    · rw [if_pos h2, textG_oct]; rfl
    · rw [if_neg h2, List.cons_append, List.nil_append, textG]
      have he : eol c = false := by
        unfold eol
        rw [Bool.or_eq_false_iff]
        refine ⟨decide_eq_false fun e => ?_, decide_eq_false fun e => ?_⟩ <;>
        · rw [e] at h2
          exact h2 (.inl (by decide))
      rw [if_neg (by rw [he]; decide), if_neg (fun e => h1 (.inr (.inr e))), if_neg (fun e => h1 (.inl e)), if_neg (fun e => h1 (.inr (.inl e)))]
      rfl
theorem textG_escs : ∀ (l t : List UInt8), textG 0 1 (l.flatMap Pl.esc ++ t) = (textG 0 1 t).map fun r => (l ++ r.1, r.2 + (l.flatMap Pl.esc).length)
  | [], t => by simp
  | c :: l, t => by
    rw [List.flatMap_cons, List.append_assoc, textG_esc, textG_escs l t, Option.map_map]
    congr 1
    funext r
    simp only [Function.comp, List.cons_append, List.length_append]
    refine Prod.ext rfl ?_
    simp only; omega
theorem textG_close (t : List UInt8) : textG 0 1 (41 :: t) = some ([], 1) := by
  rw [textG, if_neg (by decide), if_neg (by decide), if_neg (by decide), if_pos rfl, if_pos (by omega)]
theorem next_open (c : UInt8) (t : List UInt8) (h : c ≠ 37 ∧ white c = false) : next (c :: t) 0 = token (c :: t) 0 := by
  have hsk : skip (c :: t) 0 = 0 := by
    unfold skip
    rw [List.drop_zero, skipF, if_neg h.1, if_neg (by rw [h.2]; decide)]
  unfold next
  rw [if_neg (by omega), Int.toNat_zero, hsk]
theorem token_text (t : List UInt8) : token (40 :: t) 0 = text (40 :: t) 0 := by
  rw [token, List.drop_zero]
  simp only
  rw [if_neg (by decide), if_neg (by decide), if_neg (by decide), if_neg (by decide), if_pos trivial]
theorem text_of {t x : List UInt8} {n : Nat} (h : textG 0 1 t = some (x, n)) (hx : x.length ≤ 32767) : next (40 :: t) 0 = (⟨3, 0, (1 + n : Nat), 0, x⟩, 0) := by
  rw [next_open 40 t (by decide), token_text, text]
  have : (40 :: t).drop (0 + 1) = t := rfl
  rw [this, h]
  simp only [told]
  rw [if_neg (by omega), Nat.zero_add]; rfl
theorem str_next {l : List UInt8} (h : l.length ≤ 32767) : next (Pl.str l) 0 = (⟨3, 0, (Pl.str l).length, 0, l⟩, 0) := by
  have hs : Pl.str l = 40 :: (l.flatMap Pl.esc ++ 41 :: []) := by simp [Pl.str]
  have := text_of (t := l.flatMap Pl.esc ++ 41 :: []) (x := l) (n := 1 + (l.flatMap Pl.esc).length) (by rw [textG_escs, textG_close]; simp) h
  rw [hs, this]
  simp only [List.length_cons, List.length_append, List.length_nil]
  rw [show 1 + (1 + (l.flatMap Pl.esc).length) = (l.flatMap Pl.esc).length + (0 + 1) + 1 by omega]
/- HEXADECIMAL -/
theorem hex_facts (c : UInt8) : digit (hexD (c.toNat / 16)) = (c.toNat / 16 : Nat) ∧ digit (hexD (c.toNat % 16)) = (c.toNat % 16 : Nat) ∧ byte (c.toNat / 16 : Nat) (c.toNat % 16 : Nat) = c ∧ hexD (c.toNat / 16) ≠ 62 ∧ hexD (c.toNat % 16) ≠ 62 ∧ white (hexD (c.toNat / 16)) = false ∧ white (hexD (c.toNat % 16)) = false
    ∧ regular (hexD (c.toNat / 16)) = true ∧ regular (hexD (c.toNat % 16)) = true ∧ hexD (c.toNat / 16) ≠ 60 := by
  refine all8 (p := fun c => digit (hexD (c.toNat / 16)) = (c.toNat / 16 : Nat) ∧ digit (hexD (c.toNat % 16)) = (c.toNat % 16 : Nat) ∧ byte (c.toNat / 16 : Nat) (c.toNat % 16 : Nat) = c ∧ hexD (c.toNat / 16) ≠ 62 ∧ hexD (c.toNat % 16) ≠ 62 ∧ white (hexD (c.toNat / 16)) = false ∧ white (hexD (c.toNat % 16)) = false
    ∧ regular (hexD (c.toNat / 16)) = true ∧ regular (hexD (c.toNat % 16)) = true ∧ hexD (c.toNat / 16) ≠ 60) ?_ c
  decide +kernel
theorem hexF_white {ws : List UInt8} (h : ws.all white = true) (h62 : (62 : UInt8) ∉ ws) (x : Int) (t : List UInt8) (r : List UInt8 × Nat) (ht : hexF x t = .inl r) : hexF x (ws ++ t) = .inl (r.1, r.2 + ws.length) := by
  induction ws with
  | nil => simpa using ht
  | cons c ws ih =>
    simp only [List.all_cons, Bool.and_eq_true] at h
    simp only [List.mem_cons, not_or] at h62
    rw [List.cons_append, hexF, if_neg (fun e => h62.1 e.symm), if_pos h.1, ih h.2 h62.2]
    simp only [List.length_cons]
    rw [Nat.add_assoc]
def spread (ws : List UInt8) (l : List UInt8) : List UInt8 := l.flatMap fun d => d :: ws
theorem spread_append (ws a b : List UInt8) : spread ws (a ++ b) = spread ws a ++ spread ws b := by simp [spread]
theorem hexF_spread {ws : List UInt8} (h : ws.all white = true) (h62 : (62 : UInt8) ∉ ws) (t : List UInt8) : ∀ l : List UInt8, hexF (-1) (spread ws (Oc.hex l) ++ 62 :: t) = .inl (l, (spread ws (Oc.hex l)).length + 1)
  | [] => by rw [show spread ws (Oc.hex []) ++ 62 :: t = 62 :: t from rfl, hexF, if_pos rfl, if_neg (by omega)]; rfl
  | c :: l => by
    obtain ⟨f1, f2, f3, f4, f5, f6, f7, -⟩ := hex_facts c
    have ih := hexF_spread h h62 t l
    have e : spread ws (Oc.hex (c :: l)) ++ 62 :: t = hexD (c.toNat / 16) :: (ws ++ hexD (c.toNat % 16) :: (ws ++ (spread ws (Oc.hex l) ++ 62 :: t))) := by
      simp [spread, Oc.hex, hex1]
    have el : (spread ws (Oc.hex (c :: l))).length = ws.length + ws.length + 2 + (spread ws (Oc.hex l)).length := by
      simp [spread, Oc.hex, hex1]; omega
    have h2 : hexF (c.toNat / 16 : Nat) (hexD (c.toNat % 16) :: (ws ++ (spread ws (Oc.hex l) ++ 62 :: t))) = .inl (c :: l, (spread ws (Oc.hex l)).length + 1 + ws.length + 1) := by
      rw [hexF, if_neg f5, if_neg (by rw [f7]; decide), f2, if_neg (by omega), if_neg (by omega), hexF_white h h62 _ _ _ ih]
      simp only [f3]
    rw [e, hexF, if_neg f4, if_neg (by rw [f6]; decide), f1, if_neg (by omega), if_pos (by omega), hexF_white h h62 _ _ _ h2, el]
    simp only
    rw [show (spread ws (Oc.hex l)).length + 1 + ws.length + 1 + ws.length + 1 = ws.length + ws.length + 2 + (spread ws (Oc.hex l)).length + 1 by omega]
theorem spread_nil (l : List UInt8) : spread [] l = l := by
  induction l with
  | nil => rfl
  | cons c l ih => rw [spread, List.flatMap_cons] ; rw [spread] at ih; rw [ih]; rfl
theorem hex_of {t x : List UInt8} {n : Nat} (h : hexF (-1) t = .inl (x, n)) (h60 : t.head? ≠ some 60) (hx : x.length ≤ 32767) : next (60 :: t) 0 = (⟨3, 0, (1 + n : Nat), 0, x⟩, 0) := by
  rw [next_open 60 t (by decide), token, List.drop_zero]
  simp only
  rw [if_neg (by decide), if_pos trivial, if_neg h60, Lx.hex]
  have : (60 :: t).drop (0 + 1) = t := rfl
  rw [this, h]
  simp only [told]
  rw [if_neg (by omega), Nat.zero_add]; rfl
theorem spread_head (ws l t : List UInt8) : (spread ws (Oc.hex l) ++ 62 :: t).head? ≠ some 60 := by
  cases l with
  | nil => simp [spread, Oc.hex]
  | cons c l =>
    have := (hex_facts c).2.2.2.2.2.2.2.2.2
    simp [spread, Oc.hex, hex1, this]
theorem hexs_next {ws l : List UInt8} (h : ws.all white = true) (h62 : (62 : UInt8) ∉ ws) (t : List UInt8) (hl : l.length ≤ 32767) : next ([60] ++ spread ws (Oc.hex l) ++ 62 :: t) 0 = (⟨3, 0, (1 + ((spread ws (Oc.hex l)).length + 1) : Nat), 0, l⟩, 0) := by
  have : [60] ++ spread ws (Oc.hex l) ++ 62 :: t = 60 :: (spread ws (Oc.hex l) ++ 62 :: t) := by simp
  rw [this]
  exact hex_of (hexF_spread h h62 t l) (spread_head ws l t) hl
theorem pHex_next {l : List UInt8} (hl : l.length ≤ 32767) : next ([60] ++ Oc.hex l ++ [62]) 0 = (⟨3, 0, ([60] ++ Oc.hex l ++ [62]).length, 0, l⟩, 0) := by
  have := hexs_next (ws := []) (l := l) rfl (by simp) [] hl
  rw [spread_nil] at this
  rw [this]
  simp only [List.length_append, List.length_singleton]
  rw [show 1 + ((Oc.hex l).length + 1) = 1 + (Oc.hex l).length + 1 by omega]
theorem octs_next {l : List UInt8} (t : List UInt8) (hl : l.length ≤ 32767) : next ([40] ++ l.flatMap Pl.oct ++ 41 :: t) 0 = (⟨3, 0, (1 + (1 + 4 * l.length) : Nat), 0, l⟩, 0) := by
  have : [40] ++ l.flatMap Pl.oct ++ 41 :: t = 40 :: (l.flatMap Pl.oct ++ 41 :: t) := by simp
  rw [this]
  exact text_of (by rw [textG_octs, textG_close]; simp) hl
/- NAMES -/
theorem nmOk_reg (c : UInt8) : Pl.nmOk c = true → regular c = true ∧ c ≠ 35 := by
  refine all8 (p := fun c => Pl.nmOk c = true → regular c = true ∧ c ≠ 35) ?_ c
  decide +kernel
theorem nmc_reg (c : UInt8) : (Pl.nmc c).all regular = true := by
  unfold Pl.nmc
  split
  · rename_i h; rw [List.all_cons, (nmOk_reg c h).1]; rfl
  · obtain ⟨-, -, -, -, -, -, -, f8, f9, -⟩ := hex_facts c
    simp only [Oc.hex, hex1, List.flatMap_cons, List.flatMap_nil, List.append_nil, List.cons_append, List.nil_append, List.all_cons, f8, f9, List.all_nil, Bool.and_true]
    decide
theorem nmcs_reg (l : List UInt8) : (l.flatMap Pl.nmc).all regular = true := by
  rw [List.all_flatMap, List.all_eq_true]
  exact fun c _ => nmc_reg c
theorem nameF_nmc : ∀ l : List UInt8, (0 : UInt8) ∉ l → nameF (l.flatMap Pl.nmc) = some l
  | [], _ => rfl
  | c :: l, h => by
    simp only [List.mem_cons, not_or] at h
    have ih := nameF_nmc l h.2
    rw [List.flatMap_cons]
    generalize l.flatMap Pl.nmc = z at *
    unfold Pl.nmc
    by_cases hc : Pl.nmOk c = true
    · rw [if_pos hc, List.cons_append, List.nil_append, nameF_ne (nmOk_reg c hc).2, ih]; rfl
    · rw [if_neg hc]
      obtain ⟨f1, f2, f3, -⟩ := hex_facts c
      have h0 : c.toNat ≠ 0 := fun e => h.1 (UInt8.toNat_inj.1 (by rw [e]; rfl))
      simp only [Oc.hex, hex1, List.flatMap_cons, List.flatMap_nil, List.append_nil, List.cons_append, List.nil_append]
      rw [nameF, if_pos rfl]
      simp only [f1, f2]
      rw [if_neg (by omega), ih, f3]; rfl
theorem name_next {l : List UInt8} (hl : l.length ≤ 127) (h0 : (0 : UInt8) ∉ l) : next (Pl.name l) 0 = (⟨4, 0, (Pl.name l).length, 0, l⟩, 0) := by
  have hs : Pl.name l = 47 :: l.flatMap Pl.nmc := by simp [Pl.name]
  rw [hs, next_open 47 _ (by decide), token, List.drop_zero]
  simp only
  rw [if_neg (by decide), if_neg (by decide), if_neg (by decide), if_pos trivial, Lx.name]
  have hd : (47 :: l.flatMap Pl.nmc).drop (0 + 1) = l.flatMap Pl.nmc := rfl
  have all_run : ∀ l : List UInt8, l.all regular = true → runF l = l.length := by
    intro l
    induction l with
    | nil => intro _; rfl
    | cons d l ih =>
      intro hl
      simp only [List.all_cons, Bool.and_eq_true] at hl
      rw [runF, if_pos hl.1, ih hl.2, List.length_cons]; omega
  have hrun : run (47 :: l.flatMap Pl.nmc) (0 + 1) = (47 :: l.flatMap Pl.nmc).length := by
    unfold run
    rw [hd, all_run _ (nmcs_reg l), List.length_cons]; omega
  have hcut : cut (47 :: l.flatMap Pl.nmc) (0 + 1) (47 :: l.flatMap Pl.nmc).length = l.flatMap Pl.nmc := by
    unfold cut
    rw [hd, List.take_of_length_le]
    rw [List.length_cons]; omega
  rw [hrun, hcut, nameF_nmc l h0]
  simp only [told]
  rw [if_neg (by omega)]; rfl
end Lx
end Go.Proofs.YtihjejmmldpelaaGreatDoor
