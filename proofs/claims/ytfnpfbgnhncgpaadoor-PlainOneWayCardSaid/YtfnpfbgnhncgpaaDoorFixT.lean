/- Contracts: Text (program and reference), digits, the reference's form. -/
import Derived.Test.YtfnpfbgnhncgpaaDoorFixR
import Derived.Test.YtfnpfbgnhncgpaaDoorFixQ
import Derived.Test.YtfnpfbgnhncgpaaDoorLibCut
namespace Go.Proofs.YtfnpfbgnhncgpaaDoor
set_option linter.unusedVariables false
set_option linter.unusedSimpArgs false
set_option linter.defProp false
open Eng Go.RowKit
set_option linter.unusedVariables false
set_option linter.unusedSimpArgs false

theorem tr_snoc_zero (q : List UInt8) : Fx.tr (q ++ [48]) = Fx.tr q := Fx.tr_zeros q 1
theorem tr_snoc (q : List UInt8) (c : UInt8) (h : c ≠ 48) : Fx.tr (q ++ [c]) = q ++ [c] := by
  have hb : (c == 48) = false := by simpa using h
  simp [Fx.tr, Lib.trimRightB, hb]
theorem natAbs_mod {n : Int} (h : 0 ≤ n) : n.tmod 10000 = ((n.natAbs % 10000 : Nat) : Int) := by rw [Int.tmod_eq_emod_of_nonneg h]; omega
theorem natAbs_div {n : Int} (h : 0 ≤ n) : n.tdiv 10000 = ((n.natAbs / 10000 : Nat) : Int) := by rw [Int.tdiv_eq_ediv_of_nonneg h]; omega

theorem ptext_ret (n : Int) (w : World) : Ret Tryd.prog 24 #[.int .i64 n] w (fun v w' => v = .string ⟨(Fx.text n).toArray⟩ ∧ Below w.heap.size w w') := by
  refine ret_of fun K hK => S_fix_Text_ok ?_
  unfold S_fix_Text
  refine c_ret (within_ret n w) ?_
  rintro v w1 ⟨rfl, rfl⟩
  by_cases ho : Fx.okB n = true
  · have hb := okB_bd ho
    simp only [ho, rs]
    have main : ∀ (m : Int) (sg : List UInt8), 0 ≤ m → m.natAbs = n.natAbs → sg = (if n < 0 then [45] else []) → S_fix_Text_0 (.int .i64 m) (.string ⟨sg.toArray⟩) w K := by
      intro m sg h0 hm hsg
      have hm2 : m ≤ 1073741824 := by omega
      unfold S_fix_Text_0
      simp only [b_quo (show (10000 : Int) ≠ 0 by omega), b_rem (show (10000 : Int) ≠ 0 by omega), natAbs_div h0, natAbs_mod h0]
      rw [wrap64_id (by omega) (by omega)]
      refine c_ret (row_ret (m.natAbs / 10000) 1 w (by omega) (by omega)) ?_
      rintro v w2 ⟨rfl, b2⟩
      refine c_ret (row_ret (m.natAbs % 10000) 4 w2 (by omega) (by omega)) ?_
      rintro v w3 ⟨rfl, b3⟩
      refine c_ret (trimRight_ret (Fx.row (m.natAbs % 10000) 4) 48 (by decide) w3 (by have := Fx.row_len (m.natAbs % 10000) 4; omega)) ?_
      rintro v w4 ⟨rfl, rfl⟩
      have hlen := Fx.row_len (m.natAbs / 10000) 1
      have hfl := Fx.fpart_len n.natAbs
      have hsl : sg.length ≤ 1 := by rw [hsg]; split <;> simp
      refine join fun J hJ => ?_
      have fin : J [.string ⟨(Fx.fpart n.natAbs).toArray⟩] w3 := by
        refine hJ _ _ fun _ => ?_
        simp only [S_fix_Text_1, gd]
        rw [s_add (by omega), s_add (b := [46]) (by simp; omega), s_add (by simp; omega)]
        refine hK _ _ ⟨?_, b2.trans (b3.mono b2.size)⟩
        rw [Fx.text, if_pos ho, hsg, hm]
      change DoX _ (mEq .eql _ _ _ (.string ⟨(Fx.tr (Fx.row (m.natAbs % 10000) 4)).toArray⟩) (.string ⟨([] : List UInt8).toArray⟩)) _ _ _
      by_cases ht : Fx.tr (Fx.row (n.natAbs % 10000) 4) = []
      · simp only [e_str, hm, ht, decide_true, rs]
        rw [Fx.fpart, if_pos ht] at fin
        exact fin
      · simp only [e_str, hm, ht, decide_false, rs]
        rw [Fx.fpart, if_neg ht] at fin
        exact fin
    refine join fun J hJ => ?_
    by_cases hn : n < 0
    · simp only [rs, hn, decide_true]
      rw [wrap64_id (by omega) (by omega)]
      exact hJ _ _ fun _ => main (-n) [45] (by omega) (by omega) (by rw [if_pos hn])
    · simp only [rs, hn, decide_false]
      exact hJ _ _ fun _ => main n [] (by omega) rfl (by rw [if_neg hn])
  · have ho' : Fx.okB n = false := by simpa using ho
    simp only [ho', rs]
    exact hK _ _ ⟨by rw [Fx.text, if_neg ho], Below.refl _ _⟩

theorem rwithin_ret (n : Int) (w : World) : Ret Tryd.prog 72 #[.int .i64 n] w (fun v w' => v = .bool (Fx.okB n) ∧ w = w') := by
  refine ret_of fun K hK => S_foliantref02_Within_ok ?_
  unfold S_foliantref02_Within
  by_cases h : -1073741824 ≤ n <;> simp only [rs, h, decide_true, decide_false] <;> exact hK _ _ ⟨by simp [Fx.okB, h], rfl⟩

def slen0 (vs : List Value) : Nat := match vs.getD 0 undef with | .string s => s.size | _ => 0
theorem slen0_mk {l : List UInt8} {t : List Value} : slen0 (.string ⟨l.toArray⟩ :: t) = l.length := by simp [slen0, str_size]

theorem rtext_ret (n : Int) (w : World) : Ret Tryd.prog 25 #[.int .i64 n] w (fun v w' => v = .string ⟨(Fx.text n).toArray⟩ ∧ Below w.heap.size w w') := by
  refine ret_of fun K hK => S_foliantref02_Text_ok ?_
  unfold S_foliantref02_Text
  refine c_ret (rwithin_ret n w) ?_
  rintro v w1 ⟨rfl, rfl⟩
  by_cases ho : Fx.okB n = true
  · have hb := okB_bd ho
    simp only [ho, rs]
    have main : ∀ (m : Int) (sg : List UInt8), 0 ≤ m → m.natAbs = n.natAbs → sg = (if n < 0 then [45] else []) → S_foliantref02_Text_0 (.int .i64 m) (.string ⟨sg.toArray⟩) w K := by
      intro m sg h0 hm hsg
      have hm2 : m ≤ 1073741824 := by omega
      have hlen := Fx.row_len (m.natAbs / 10000) 1
      have hfl := Fx.fpart_len n.natAbs
      have hsl : sg.length ≤ 1 := by rw [hsg]; split <;> simp
      unfold S_foliantref02_Text_0
      simp only [b_rem (show (10000 : Int) ≠ 0 by omega), natAbs_mod h0]
      refine c_ret (digits_ret (m.natAbs % 10000) 4 w (by omega) (by omega)) ?_
      rintro v w2 ⟨rfl, b2⟩
      refine loop (fun vs w' => ∃ p : List UInt8, vs = [.string ⟨p.toArray⟩] ∧ (if Fx.tr p = [] then [48] else Fx.tr p) = Fx.fpart n.natAbs ∧ p.length ≤ 64 ∧ 1 ≤ p.length ∧ Below w.heap.size w w') (fun vs _ => slen0 vs)
        ⟨Fx.row (m.natAbs % 10000) 4, rfl, by rw [hm]; rfl, Fx.row_len _ _, Fx.row_pos _ _ (by omega), b2⟩ ?_
      rintro vs w3 ⟨p, rfl, hp, hpl, hp1, b3⟩ _
      simp only [S_foliantref02_Text_1, gd, s_len Tryd.underlying9, rs]
      have fin : p = Fx.fpart n.natAbs → DoX Tryd.prog (mBin .quo 2 (.int .i64 m) (.int .i64 10000)) w3 (pk K) fun t33 w =>
          CallX Tryd.prog 77 #[t33, (.int .i64 1)] w (pk K) fun t34 w =>
          DoX Tryd.prog (mBin .add 9 (.string ⟨sg.toArray⟩) t34) w (pk K) fun t35 w =>
          DoX Tryd.prog (mBin .add 9 t35 (.string ⟨#[46]⟩)) w (pk K) fun t36 w =>
          DoX Tryd.prog (mBin .add 9 t36 (.string ⟨p.toArray⟩)) w (pk K) fun t38 w =>
          K (.returned t38) w := by
        intro hpe
        simp only [b_quo (show (10000 : Int) ≠ 0 by omega), natAbs_div h0]
        rw [wrap64_id (by omega) (by omega)]
        refine c_ret (digits_ret (m.natAbs / 10000) 1 w3 (by omega) (by omega)) ?_
        rintro v w4 ⟨rfl, b4⟩
        rw [s_add (by omega), s_add (b := [46]) (by simp; omega), s_add (by simp; omega)]
        refine hK _ _ ⟨?_, b3.trans (b4.mono b3.size)⟩
        rw [Fx.text, if_pos ho, hsg, hm, hpe]
      have hne : p ≠ [] := by intro e; rw [e] at hp1; simp at hp1
      obtain ⟨q, c, rfl⟩ : ∃ q c, p = q ++ [c] := ⟨p.dropLast, p.getLast hne, (List.dropLast_concat_getLast hne).symm⟩
      have hql : (q ++ [c]).length = q.length + 1 := by simp
      by_cases h1 : 0 < q.length
      · have h1' : (1 : Int) < (((q ++ [c]).length : Nat) : Int) := by omega
        simp only [h1', decide_true, rs, s_len Tryd.underlying9]
        rw [wrap64_id (by omega) (by omega), s_ix (c := c) Tryd.underlying9 (by omega) (by
          rw [show ((((q ++ [c]).length : Nat) : Int) - 1).toNat = q.length by omega]; simp)]
        by_cases hc : c = 48
        · subst hc
          simp only [show (((48 : UInt8).toNat : Nat) : Int) = 48 from rfl, decide_true, rs]
          rw [s_upto Tryd.underlying9 (by omega) (by omega)]
          refine nextX ⟨q, ?_, by rw [← hp, tr_snoc_zero], by omega, h1, b3⟩ (by rw [slen0_mk, slen0_mk]; simp)
          have e : ((((q ++ [(48 : UInt8)]).length : Nat) : Int) - 1).toNat = q.length := by omega
          rw [e]; simp
        · have hc' : ¬ ((c.toNat : Int) = 48) := by
            intro e; exact hc (UInt8.toNat_inj.1 (show c.toNat = 48 by omega))
          simp only [hc', decide_false, rs]
          refine fin ?_
          rw [← hp, tr_snoc q c hc, if_neg (by simp)]
      · have h1' : ¬ (1 : Int) < (((q ++ [c]).length : Nat) : Int) := by omega
        have hq : q = [] := List.eq_nil_of_length_eq_zero (by omega)
        subst hq
        simp only [h1', decide_false, rs]
        refine fin ?_
        rw [← hp]
        by_cases hc : c = 48
        · subst hc; rfl
        · rw [tr_snoc [] c hc, if_neg (by simp)]
    refine join fun J hJ => ?_
    by_cases hn : n < 0
    · simp only [rs, hn, decide_true]
      rw [wrap64_id (by omega) (by omega)]
      exact hJ _ _ fun _ => main (-n) [45] (by omega) (by omega) (by rw [if_pos hn])
    · simp only [rs, hn, decide_false]
      exact hJ _ _ fun _ => main n [] (by omega) rfl (by rw [if_neg hn])
  · have ho' : Fx.okB n = false := by simpa using ho
    simp only [ho', rs]
    exact hK _ _ ⟨by rw [Fx.text, if_neg ho], Below.refl _ _⟩

theorem digs_contains (c : UInt8) : ([48, 49, 50, 51, 52, 53, 54, 55, 56, 57] : List UInt8).contains c = Fx.isDig c := by
  rw [Bool.eq_iff_iff]
  simp [Fx.isDig, ← UInt8.toNat_inj]
  omega
theorem dropWhile_nil {p : UInt8 → Bool} : ∀ l : List UInt8, l.dropWhile p = [] ↔ l.all p = true
  | [] => by simp
  | c :: t => by
    by_cases h : p c = true
    · simp [h, dropWhile_nil t]
    · simp [h]
theorem dropWhile_all {p : UInt8 → Bool} : ∀ l : List UInt8, (l.dropWhile p).all p = l.all p
  | [] => rfl
  | c :: t => by
    by_cases h : p c = true
    · simp [h, dropWhile_all t]
    · simp [h]
theorem trimS_nil (l : List UInt8) : (Lib.trimS l [48, 49, 50, 51, 52, 53, 54, 55, 56, 57] = []) ↔ l.all Fx.isDig = true := by
  have e : (([48, 49, 50, 51, 52, 53, 54, 55, 56, 57] : List UInt8).contains ·) = Fx.isDig := funext digs_contains
  rw [Lib.trimS, Lib.trimLeftS, Lib.trimRightS]
  simp only [e]
  rw [dropWhile_nil, List.all_reverse, dropWhile_all, List.all_reverse]
theorem pdigits_ret (l : List UInt8) (w : World) (hl : l.length ≤ 9223372036854775807) : Ret Tryd.prog 68 #[.string ⟨l.toArray⟩] w (fun v w' => v = .bool (l.all Fx.isDig) ∧ Below w.heap.size w w') := by
  refine ret_of fun K hK => S_fix_digits_ok ?_
  unfold S_fix_digits
  refine c_ret (trim_ret l [48, 49, 50, 51, 52, 53, 54, 55, 56, 57] w hl (by decide) (by decide)) ?_
  rintro v w1 ⟨rfl, b1⟩
  change DoX _ (mEq .eql _ _ _ _ (.string ⟨([] : List UInt8).toArray⟩)) _ _ _
  rw [e_str]
  refine hK _ _ ⟨?_, b1⟩
  have := trimS_nil l
  by_cases h : l.all Fx.isDig = true
  · rw [h, decide_eq_true (this.2 h)]
  · rw [decide_eq_false (fun e => h (this.1 e))]; simpa using h
end Go.Proofs.YtfnpfbgnhncgpaaDoor
