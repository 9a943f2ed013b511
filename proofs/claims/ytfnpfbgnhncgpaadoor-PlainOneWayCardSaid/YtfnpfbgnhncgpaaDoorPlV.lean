/- The laws of layer 4, walked: PlainOneWay, PlainPads. -/
import Derived.Test.YtfnpfbgnhncgpaaDoorPlU
namespace Go.Proofs.YtfnpfbgnhncgpaaDoor
set_option linter.unusedVariables false
set_option linter.unusedSimpArgs false
set_option linter.defProp false
open Eng Go.RowKit

/-- What follows on the numbers; on the strings. -/
def oneWay2 (s t : List UInt8) (K : Ending → World → Prop) (w : World) : Prop :=
 CallX Tryd.prog 41 #[(.string ⟨s.toArray⟩)] w (pk K) fun t102 w =>
 DoX Tryd.prog (mExt t102 0) w (pk K) fun t103 w =>
 DoX Tryd.prog (mExt t102 1) w (pk K) fun t104 w =>
 CallX Tryd.prog 41 #[(.string ⟨t.toArray⟩)] w (pk K) fun t107 w =>
 DoX Tryd.prog (mExt t107 0) w (pk K) fun t108 w =>
 DoX Tryd.prog (mExt t107 1) w (pk K) fun t109 w =>
 CallX Tryd.prog 45 #[(.string ⟨s.toArray⟩)] w (pk K) fun t112 w =>
 DoX Tryd.prog (mExt t112 0) w (pk K) fun t113 w =>
 DoX Tryd.prog (mExt t112 1) w (pk K) fun t114 w =>
 CallX Tryd.prog 45 #[(.string ⟨t.toArray⟩)] w (pk K) fun t117 w =>
 DoX Tryd.prog (mExt t117 0) w (pk K) fun t118 w =>
 DoX Tryd.prog (mExt t117 1) w (pk K) fun t119 w =>
 DoX Tryd.prog (mEq .eql 23 (.tmp 120) (.const (.int .i64 0)) t104 (.int .i64 0)) w (pk K) fun t121 w =>
 GDo t121 true (fun E => E t109 w) w fun t123 w =>
 GDo t121 true (fun E => DoX Tryd.prog (mEq .eql 23 (.tmp 123) (.const (.int .i64 0)) t123 (.int .i64 0)) w (pk K) E) w fun t124 w =>
 DoX Tryd.prog (mPick t121 t124 (.bool false)) w (pk K) fun t125 w =>
 GDo t125 true (fun E => E t103 w) w fun t127 w =>
 GDo t125 true (fun E => E t108 w) w fun t128 w =>
 GDo t125 true (fun E => DoX Tryd.prog (mEq .eql 9 (.tmp 127) (.tmp 128) t127 t128) w (pk K) E) w fun t129 w =>
 GDo t125 true (fun E => E (.string ⟨s.toArray⟩) w) w fun t130 w =>
 GDo t125 true (fun E => E (.string ⟨t.toArray⟩) w) w fun t131 w =>
 GDo t125 true (fun E => DoX Tryd.prog (mEq .eql 9 (.tmp 130) (.tmp 131) t130 t131) w (pk K) E) w fun t132 w =>
 GDo t125 true (fun E => DoX Tryd.prog (mEq .eql 4 (.tmp 129) (.tmp 132) t129 t132) w (pk K) E) w fun t133 w =>
 DoX Tryd.prog (mPick t125 t133 (.bool false)) w (pk K) fun t134 w =>
 GDo t134 true (fun E => E t114 w) w fun t136 w =>
 GDo t134 true (fun E => DoX Tryd.prog (mEq .neq 23 (.tmp 136) (.const (.int .i64 0)) t136 (.int .i64 0)) w (pk K) E) w fun t137 w =>
 GDo t134 true (fun E => E t137 w) w fun t138 w =>
 GDo t138 false (fun E => E t119 w) w fun t139 w =>
 GDo t138 false (fun E => DoX Tryd.prog (mEq .neq 23 (.tmp 139) (.const (.int .i64 0)) t139 (.int .i64 0)) w (pk K) E) w fun t140 w =>
 GDo t134 true (fun E => DoX Tryd.prog (mPick t138 (.bool true) t140) w (pk K) E) w fun t141 w =>
 GDo t134 true (fun E => E t141 w) w fun t142 w =>
 GDo t142 false (fun E => E t113 w) w fun t143 w =>
 GDo t142 false (fun E => E t118 w) w fun t144 w =>
 GDo t142 false (fun E => DoX Tryd.prog (mEq .eql 9 (.tmp 143) (.tmp 144) t143 t144) w (pk K) E) w fun t145 w =>
 GDo t142 false (fun E => E (.string ⟨s.toArray⟩) w) w fun t146 w =>
 GDo t142 false (fun E => E (.string ⟨t.toArray⟩) w) w fun t147 w =>
 GDo t142 false (fun E => DoX Tryd.prog (mEq .eql 9 (.tmp 146) (.tmp 147) t146 t147) w (pk K) E) w fun t148 w =>
 GDo t142 false (fun E => DoX Tryd.prog (mEq .eql 4 (.tmp 145) (.tmp 148) t145 t148) w (pk K) E) w fun t149 w =>
 GDo t134 true (fun E => DoX Tryd.prog (mPick t142 (.bool true) t149) w (pk K) E) w fun t150 w =>
 DoX Tryd.prog (mPick t134 t150 (.bool false)) w (pk K) fun t151 w =>
 K (.returned t151) w
def oneWay (n m : Int) (s t : List UInt8) (K : Ending → World → Prop) : Value → World → Prop :=
 fun t37 w =>
 DoX Tryd.prog (mExt t37 0) w (pk K) fun t38 w =>
 DoX Tryd.prog (mExt t37 1) w (pk K) fun t39 w =>
 CallX Tryd.prog 37 #[(.int .i64 m)] w (pk K) fun t42 w =>
 DoX Tryd.prog (mExt t42 0) w (pk K) fun t43 w =>
 DoX Tryd.prog (mExt t42 1) w (pk K) fun t44 w =>
 CallX Tryd.prog 39 #[(.int .i64 n)] w (pk K) fun t47 w =>
 DoX Tryd.prog (mExt t47 0) w (pk K) fun t48 w =>
 DoX Tryd.prog (mExt t47 1) w (pk K) fun t49 w =>
 CallX Tryd.prog 39 #[(.int .i64 m)] w (pk K) fun t52 w =>
 DoX Tryd.prog (mExt t52 0) w (pk K) fun t53 w =>
 DoX Tryd.prog (mExt t52 1) w (pk K) fun t54 w =>
 DoX Tryd.prog (mEq .eql 23 (.tmp 55) (.const (.int .i64 0)) t39 (.int .i64 0)) w (pk K) fun t56 w =>
 GDo t56 true (fun E => E t44 w) w fun t58 w =>
 GDo t56 true (fun E => DoX Tryd.prog (mEq .eql 23 (.tmp 58) (.const (.int .i64 0)) t58 (.int .i64 0)) w (pk K) E) w fun t59 w =>
 DoX Tryd.prog (mPick t56 t59 (.bool false)) w (pk K) fun t60 w =>
 GDo t60 true (fun E => E t38 w) w fun t62 w =>
 GDo t60 true (fun E => E t43 w) w fun t63 w =>
 GDo t60 true (fun E => DoX Tryd.prog (mEq .eql 9 (.tmp 62) (.tmp 63) t62 t63) w (pk K) E) w fun t64 w =>
 GDo t60 true (fun E => E (.int .i64 n) w) w fun t65 w =>
 GDo t60 true (fun E => E (.int .i64 m) w) w fun t66 w =>
 GDo t60 true (fun E => DoX Tryd.prog (mEq .eql 2 (.tmp 65) (.tmp 66) t65 t66) w (pk K) E) w fun t67 w =>
 GDo t60 true (fun E => DoX Tryd.prog (mEq .neq 4 (.tmp 64) (.tmp 67) t64 t67) w (pk K) E) w fun t68 w =>
 DoX Tryd.prog (mPick t60 t68 (.bool false)) w (pk K) fun t69 w =>
 GDo t69 false (fun E => E t49 w) w fun t71 w =>
 GDo t69 false (fun E => DoX Tryd.prog (mEq .eql 23 (.tmp 71) (.const (.int .i64 0)) t71 (.int .i64 0)) w (pk K) E) w fun t72 w =>
 GDo t69 false (fun E => E t72 w) w fun t73 w =>
 GDo t73 true (fun E => E t54 w) w fun t74 w =>
 GDo t73 true (fun E => DoX Tryd.prog (mEq .eql 23 (.tmp 74) (.const (.int .i64 0)) t74 (.int .i64 0)) w (pk K) E) w fun t75 w =>
 GDo t69 false (fun E => DoX Tryd.prog (mPick t73 t75 (.bool false)) w (pk K) E) w fun t76 w =>
 GDo t69 false (fun E => E t76 w) w fun t77 w =>
 GDo t77 true (fun E => E t48 w) w fun t78 w =>
 GDo t77 true (fun E => E t53 w) w fun t79 w =>
 GDo t77 true (fun E => DoX Tryd.prog (mEq .eql 9 (.tmp 78) (.tmp 79) t78 t79) w (pk K) E) w fun t80 w =>
 GDo t77 true (fun E => E (.int .i64 n) w) w fun t81 w =>
 GDo t77 true (fun E => E (.int .i64 m) w) w fun t82 w =>
 GDo t77 true (fun E => DoX Tryd.prog (mEq .eql 2 (.tmp 81) (.tmp 82) t81 t82) w (pk K) E) w fun t83 w =>
 GDo t77 true (fun E => DoX Tryd.prog (mEq .neq 4 (.tmp 80) (.tmp 83) t80 t83) w (pk K) E) w fun t84 w =>
 GDo t69 false (fun E => DoX Tryd.prog (mPick t77 t84 (.bool false)) w (pk K) E) w fun t85 w =>
 DoX Tryd.prog (mPick t69 (.bool true) t85) w (pk K) fun t86 w =>
 GDo t86 false (fun E => E t39 w) w fun t88 w =>
 GDo t86 false (fun E => DoX Tryd.prog (mEq .eql 23 (.tmp 88) (.const (.int .i64 0)) t88 (.int .i64 0)) w (pk K) E) w fun t89 w =>
 GDo t86 false (fun E => E t89 w) w fun t90 w =>
 GDo t90 true (fun E => E t54 w) w fun t91 w =>
 GDo t90 true (fun E => DoX Tryd.prog (mEq .eql 23 (.tmp 91) (.const (.int .i64 0)) t91 (.int .i64 0)) w (pk K) E) w fun t92 w =>
 GDo t86 false (fun E => DoX Tryd.prog (mPick t90 t92 (.bool false)) w (pk K) E) w fun t93 w =>
 GDo t86 false (fun E => E t93 w) w fun t94 w =>
 GDo t94 true (fun E => E t38 w) w fun t95 w =>
 GDo t94 true (fun E => E t53 w) w fun t96 w =>
 GDo t94 true (fun E => DoX Tryd.prog (mEq .eql 9 (.tmp 95) (.tmp 96) t95 t96) w (pk K) E) w fun t97 w =>
 GDo t86 false (fun E => DoX Tryd.prog (mPick t94 t97 (.bool false)) w (pk K) E) w fun t98 w =>
 DoX Tryd.prog (mPick t86 (.bool true) t98) w (pk K) fun t99 w =>
 IfX t99 (K (.returned (.bool false)) w) (oneWay2 s t K w)
theorem ifx_f {b : Bool} {A B : Prop} (h : b = false) (hB : B) : IfX (.bool b) A B := by subst h; rw [i_f]; exact hB
theorem pInt_ok (n : Int) : decide ((Pl.pInt n).2 = 0) = true → (Pl.pInt n).1 = Lib.itoa n := by
  unfold Pl.pInt; split <;> simp
theorem pReal_ok (n : Int) : decide ((Pl.pReal n).2 = 0) = true → (Pl.pReal n).1 = Fx.text n ∧ Fx.okB n = true := by
  unfold Pl.pReal; split <;> simp_all
theorem pName_ok (l : List UInt8) : decide ((Pl.pName l).2 ≠ 0) = false → (Pl.pName l).1 = Pl.name l := by
  unfold Pl.pName
  by_cases h : 127 < l.length
  · rw [if_pos h]; simp
  · rw [if_neg h]
    by_cases h2 : l.contains 0 = true
    · rw [if_pos h2]; simp
    · rw [if_neg h2]; simp
theorem dec_iff {p q : Prop} [Decidable p] [Decidable q] (h : p ↔ q) : decide p = decide q := by
  by_cases hp : p
  · rw [decide_eq_true hp, decide_eq_true (h.1 hp)]
  · rw [decide_eq_false hp, decide_eq_false (fun hq => hp (h.2 hq))]
theorem plainOneWay_ret (n m : Int) (s t : List UInt8) (w : World) (ht : Tb w) (hn : I64 n) (hm : I64 m) (hs : s.length ≤ 9223372036854775807) (htl : t.length ≤ 9223372036854775807) :
    Ret Tryd.prog 9 #[.int .i64 n, .int .i64 m, .string ⟨s.toArray⟩, .string ⟨t.toArray⟩] w (fun v w' => v = .bool true ∧ Below w.heap.size w w') := by
  refine ret_of fun K hK => S_foliantlaw04_PlainOneWay_ok ?_
  unfold S_foliantlaw04_PlainOneWay
  refine c_told (plives_ret w ht) rfl (Own.start w) fun w0 h0 => ?_
  have done : ∀ w', Below w.heap.size w w' → K (.returned (.bool true)) w' := fun w' hb => hK _ _ ⟨rfl, hb⟩
  have main : s.length ≤ 120 → t.length ≤ 120 → CallX Tryd.prog 37 #[.int .i64 n] w0 (pk K) (oneWay n m s t K) := by
    intro hs1 ht1
    unfold oneWay
    refine c_told (pint_ret n w0 (ht.own h0)) rfl h0 fun w1 h1 => ?_
    simp only [ex]
    refine c_told (pint_ret m w1 (ht.own h1)) rfl h1 fun w2 h2 => ?_
    simp only [ex]
    refine c_told (preal_ret n w2) rfl h2 fun w3 h3 => ?_
    simp only [ex]
    refine c_told (preal_ret m w3) rfl h3 fun w4 h4 => ?_
    simp only [ex]
    have A : (Pl.pInt n).2 = 0 → (Pl.pInt m).2 = 0 → decide ((Pl.pInt n).1 = (Pl.pInt m).1) = decide (n = m) := fun p1 p2 => by
      rw [pInt_ok n (decide_eq_true p1), pInt_ok m (decide_eq_true p2)]
      exact dec_iff ⟨Pl.itoa_inj, fun e => by rw [e]⟩
    have B : (Pl.pReal n).2 = 0 → (Pl.pReal m).2 = 0 → decide ((Pl.pReal n).1 = (Pl.pReal m).1) = decide (n = m) := fun p1 p2 => by
      obtain ⟨q1, q2⟩ := pReal_ok n (decide_eq_true p1)
      obtain ⟨q3, q4⟩ := pReal_ok m (decide_eq_true p2)
      rw [q1, q3]
      exact dec_iff ⟨Pl.text_inj q2 q4, fun e => by rw [e]⟩
    have C : (Pl.pInt n).2 = 0 → (Pl.pReal m).2 = 0 → decide ((Pl.pInt n).1 = (Pl.pReal m).1) = false := fun p1 p2 => by
      obtain ⟨q3, q4⟩ := pReal_ok m (decide_eq_true p2)
      rw [pInt_ok n (decide_eq_true p1), q3]
      refine decide_eq_false fun e => Pl.itoa_no46 n ?_
      rw [e]; exact Pl.text_has46 q4
    have strings : oneWay2 s t K w4 := by
      unfold oneWay2
      refine c_told (pstr_ret s w4 (by omega)) rfl h4 fun w5 h5 => ?_
      simp only [ex]
      refine c_told (pstr_ret t w5 (by omega)) rfl h5 fun w6 h6 => ?_
      simp only [ex]
      refine c_told (pname_ret s w6) rfl h6 fun w7 h7 => ?_
      simp only [ex]
      refine c_told (pname_ret t w7) rfl h7 fun w8 h8 => ?_
      simp only [ex]
      have D : Pl.pStr s = (Pl.str s, 0) := by rw [Pl.pStr, if_neg (by omega)]
      have D2 : Pl.pStr t = (Pl.str t, 0) := by rw [Pl.pStr, if_neg (by omega)]
      have E : decide (Pl.str s = Pl.str t) = decide (s = t) := dec_iff ⟨Pl.str_inj, fun e => by rw [e]⟩
      have F : (Pl.pName s).2 = 0 → (Pl.pName t).2 = 0 → decide ((Pl.pName s).1 = (Pl.pName t).1) = decide (s = t) := fun p1 p2 => by
        rw [pName_ok s (decide_eq_false (by simp [p1])), pName_ok t (decide_eq_false (by simp [p2]))]
        exact dec_iff ⟨Pl.name_inj, fun e => by rw [e]⟩
      by_cases p1 : (Pl.pName s).2 = 0 <;> by_cases p2 : (Pl.pName t).2 = 0 <;>
        simp only [rs, D, D2, E, F, p1, p2, e_bool Tryd.underlying4, n_bool Tryd.underlying4, eq_self, decide_true, decide_false, beq_self_eq_true, ne_eq, not_true_eq_false, not_false_eq_true, g_un] <;>
        exact done _ h8.done
    by_cases p1 : (Pl.pInt n).2 = 0 <;> by_cases p2 : (Pl.pInt m).2 = 0 <;> by_cases p3 : (Pl.pReal n).2 = 0 <;> by_cases p4 : (Pl.pReal m).2 = 0 <;>
      simp only [rs, A, B, C, p1, p2, p3, p4, e_bool Tryd.underlying4, n_bool Tryd.underlying4, eq_self, decide_true, decide_false, beq_self_eq_true, g_un] <;>
      exact strings
  simp only [u_not, nn_t, i_f, s_len Tryd.underlying9, b_gtr]
  by_cases g1 : (120 : Int) < (s.length : Int)
  · simp only [g1, decide_true, rs, g_un]; exact done _ h0.done
  simp only [g1, decide_false, rs, g_un, s_len Tryd.underlying9]
  by_cases g2 : (120 : Int) < (t.length : Int)
  · simp only [g2, decide_true, rs, g_un]; exact done _ h0.done
  simp only [g2, decide_false, rs, g_un]
  exact main (by omega) (by omega)
theorem pad_len (n k : Int) (h0 : -9223372036854775808 ≤ n) (h1 : n ≤ 9223372036854775807) : (Pl.pad n k).length ≤ 20 := by
  unfold Pl.pad
  split
  · simp
  · rename_i h
    have := itoa_len n h0 h1
    simp only [List.length_append, List.length_replicate]; omega
theorem plainPads_ret (n k : Int) (w : World) (ht : Tb w) (hn : I64 n) (hk : I64 k) :
    Ret Tryd.prog 10 #[.int .i64 n, .int .i64 k] w (fun v w' => v = .bool true ∧ Below w.heap.size w w') := by
  refine ret_of fun K hK => S_foliantlaw04_PlainPads_ok ?_
  unfold S_foliantlaw04_PlainPads
  refine c_told (plives_ret w ht) rfl (Own.start w) fun w0 h0 => ?_
  simp only [u_not, nn_t, i_f]
  refine c_told (ppad_ret n k hn.1 hn.2 hk.1 hk.2 w0 (ht.own h0)) rfl h0 fun w1 h1 => ?_
  have done : ∀ w', Below w.heap.size w w' → K (.returned (.bool true)) w' := fun w' hb => hK _ _ ⟨rfl, hb⟩
  have short : DoX Tryd.prog (mB .len #[9] 3 #[false] #[.string ⟨(Pl.pad n k).toArray⟩]) w1 (pk K) fun t29 w => DoX Tryd.prog (mBin .leq 3 t29 (.int .i64 20)) w (pk K) fun t30 w => K (.returned t30) w := by
    have := pad_len n k hn.1 hn.2
    rw [s_len Tryd.underlying9, b_leq, decide_eq_true (by omega)]
    exact done _ h1.done
  by_cases g1 : n < 0
  · simp only [rs, g1, decide_true, g_un]; simpa only [rs] using short
  simp only [rs, g1, decide_false, g_un]
  by_cases g2 : 2147483647 < n
  · simp only [rs, g2, decide_true, g_un]; simpa only [rs] using short
  simp only [rs, g2, decide_false, g_un]
  by_cases g3 : k < 1
  · simp only [rs, g3, decide_true, g_un]; simpa only [rs] using short
  simp only [rs, g3, decide_false, g_un]
  by_cases g4 : 19 < k
  · simp only [rs, g4, decide_true, g_un]; simpa only [rs] using short
  simp only [rs, g4, decide_false, g_un]
  refine c_told (pint_ret n w1 (ht.own h1)) rfl h1 fun w2 h2 => ?_
  have hI : Pl.pInt n = (Lib.itoa n, 0) := by rw [Pl.pInt, if_pos (by omega)]
  have hil := itoa_len n hn.1 hn.2
  simp only [ex, hI, rs, s_len Tryd.underlying9, ne_eq, not_true_eq_false, decide_false, eq_self, decide_true]
  by_cases g5 : k < ((Lib.itoa n).length : Int)
  · have hp : Pl.pad n k = [] := by rw [Pl.pad, if_pos (by omega)]
    simp only [g5, decide_true, hp, rs, eq_self]
    exact done _ h2.done
  simp only [g5, decide_false, i_f]
  obtain ⟨d, hd⟩ : ∃ d : Nat, k - ((Lib.itoa n).length : Int) = d := ⟨(k - ((Lib.itoa n).length : Int)).toNat, by omega⟩
  have hp : Pl.pad n k = List.replicate d 48 ++ Lib.itoa n := by rw [Pl.pad, if_neg (by omega), hd, Int.toNat_natCast]
  have hp2 : Pl.pad n (k + 1) = [48] ++ Pl.pad n k := by
    rw [hp, Pl.pad, if_neg (by omega), show (k + 1 - ((Lib.itoa n).length : Int)).toNat = d + 1 by omega, List.replicate_succ]
    rfl
  have hpl : (Pl.pad n k).length = d + (Lib.itoa n).length := by rw [hp]; simp
  refine loop (fun vs w' => ∃ (i : Nat), vs = [.int .i64 i] ∧ i ≤ d ∧ w2 = w') (fun vs _ => d - n0 vs) ⟨0, rfl, by omega, rfl⟩ ?_
  rintro vs w3 ⟨i, rfl, hi, rfl⟩ _
  simp only [S_foliantlaw04_PlainPads_0, gd, s_len Tryd.underlying9]
  rw [b_sub, wrap64_id (by omega) (by omega), hd, b_lss]
  by_cases hlt : (i : Int) < (d : Int)
  · have hl2 : (i : Int) < ((Pl.pad n k).length : Int) := by omega
    simp only [rs, hlt, hl2, decide_true, s_len Tryd.underlying9]
    rw [s_ix (c := 48) Tryd.underlying9 (by omega) (by
      rw [hp, Int.toNat_natCast, List.getElem?_append_left (by simp; omega), List.getElem?_replicate, if_pos (by omega)])]
    rw [n_int, show decide (((48 : UInt8).toNat : Int) ≠ 48) = false from rfl, i_f]
    rw [wrap64_id (by omega) (by omega)]
    exact nextX ⟨i + 1, rfl, by omega, rfl⟩ (by simp [n0, intOf]; omega)
  · simp only [hlt, decide_false, rs, g_un]
    have hk2 : decide ((((Pl.pad n k).length : Nat) : Int) = k) = true := decide_eq_true (by omega)
    simp only [rs, hk2, s_len Tryd.underlying9]
    rw [wrap64_id (by omega) (by omega), hd, s_from Tryd.underlying9 (by omega) (by omega)]
    have hdrop : (Pl.pad n k).drop (d : Int).toNat = Lib.itoa n := by
      rw [hp, Int.toNat_natCast, List.drop_append_of_le_length (by simp)]
      simp
    rw [hdrop]
    simp only [rs, eq_self, decide_true]
    rw [wrap64_id (by omega) (by omega)]
    refine c_told (ppad_ret n (k + 1) hn.1 hn.2 (by omega) (by omega) w2 (ht.own h2)) rfl h2 fun w4 h4 => ?_
    change DoX Tryd.prog (mBin .add 9 (.string ⟨([48] : List UInt8).toArray⟩) _) _ _ _
    rw [s_add (by simp; omega), hp2]
    simp only [rs, eq_self, decide_true]
    exact done _ h4.done
end Go.Proofs.YtfnpfbgnhncgpaaDoor
