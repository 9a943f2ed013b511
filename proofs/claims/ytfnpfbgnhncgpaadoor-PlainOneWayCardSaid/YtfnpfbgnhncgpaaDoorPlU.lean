/- The laws of layer 4, walked: PlainTells, PlainOneWay, PlainPads. -/
import Derived.Test.YtfnpfbgnhncgpaaDoorPlT
namespace Go.Proofs.YtfnpfbgnhncgpaaDoor
set_option linter.unusedVariables false
set_option linter.unusedSimpArgs false
set_option linter.defProp false
open Eng Go.RowKit
 attribute [local congr] g_congr

theorem plainTells_ret (n m : Int) (s t : List UInt8) (pv : Value) (ps : List (List UInt8)) (a k : Int) (w : World) (ht : Tb w) (hn : I64 n) (hm : I64 m) (hs : s.length ≤ 9223372036854775807) (htl : t.length ≤ 9223372036854775807) (hp : Sl w pv 1 ps.length (strsV ps)) (hpl : ps.length ≤ 9223372036854775807) (hpe : ∀ p ∈ ps, p.length ≤ 9223372036854775807) (ha : I64 a) (hk : I64 k) :
    Ret Tryd.prog 8 #[.int .i64 n, .int .i64 m, .string ⟨s.toArray⟩, .string ⟨t.toArray⟩, pv, .int .i64 a, .int .i64 k] w (fun v w' => v = .bool true ∧ Below w.heap.size w w') := by
  refine ret_of fun K hK => S_foliantlaw04_PlainTells_ok ?_
  unfold S_foliantlaw04_PlainTells
  have lives : ∀ w', Below w.heap.size w w' → CallX Tryd.prog 36 #[] w' (pk K) fun t60 w => K (.returned t60) w := fun w' hb =>
    c_ret (plives_ret w' (ht.mono hb)) fun v w2 ⟨hv, hb2⟩ => hK _ _ ⟨hv, hb.trans (hb2.mono hb.size)⟩
  have main : s.length ≤ 33000 → t.length ≤ 300 → ps.length ≤ 40 → LoopX [(.int .i64 0)] w (fun vs1 w N1 => ∀ _ : Sg, S_foliantlaw04_PlainTells_0 (.int .i64 n) (.int .i64 m) (.string ⟨s.toArray⟩) (.string ⟨t.toArray⟩) pv (.int .i64 a) (.int .i64 k) pv (.int .i64 ps.length) (vs1.getD 0 undef) w N1 K) := by
    intro hs3 ht3 hp3
    refine loop (fun vs w' => ∃ (i : Nat), vs = [.int .i64 i] ∧ i ≤ ps.length ∧ (∀ p ∈ ps.take i, p.length ≤ 300) ∧ w = w') (fun vs _ => ps.length - n0 vs) ⟨0, rfl, by omega, by simp, rfl⟩ ?_
    rintro vs w2 ⟨i, rfl, hi, hall, rfl⟩ _
    simp only [S_foliantlaw04_PlainTells_0, gd]
    rw [b_lss]
    by_cases hlt : (i : Int) < (ps.length : Int)
    · have hi2 : i < ps.length := by omega
      simp only [hlt, decide_true, i_t]
      refine sl_ia1 (.string ⟨ps[i].toArray⟩) Tryd.underlying37 (by kernel_rfl) hp (by omega) (by rw [Int.toNat_natCast]; exact strsV_get hi2) fun p hpc => ?_
      rw [l_cell (by kernel_rfl) hpc, s_len Tryd.underlying9, b_gtr]
      by_cases hlong : (300 : Int) < (ps[i].length : Int)
      · simp only [hlong, decide_true, i_t]
        exact lives w (Below.refl _ _)
      · simp only [hlong, decide_false, i_f]
        rw [b_add, wrap64_id (by omega) (by omega)]
        refine nextX ⟨i + 1, rfl, by omega, ?_, rfl⟩ (by simp [n0, intOf]; omega)
        rw [List.take_succ_eq_append_getElem hi2]
        intro p hp'
        rcases List.mem_append.1 hp' with h | h
        · exact hall p h
        · rw [List.mem_singleton] at h; subst h; omega
    · have hi2 : i = ps.length := by omega
      subst hi2
      rw [List.take_length] at hall
      simp only [hlt, decide_false, i_f]
      have htot : ∀ l : List (List UInt8), (∀ p ∈ l, p.length ≤ 300) → Pl.tot l ≤ 301 * l.length := by
        intro l
        induction l with
        | nil => intro _; simp [Pl.tot]
        | cons p l ih =>
          intro h
          have h1 := ih (fun q hq => h q (by simp [hq]))
          have h2 := h p (by simp)
          simp only [Pl.tot, List.map_cons, List.sum_cons, List.length_cons] at h1 ⊢
          omega
      have htot2 := htot ps hall
      refine c_told (pint_ret n w ht) rfl (Own.start w) fun w1 h1 => ?_
      simp only [ex]
      refine c_eq (rint_ret n w1) ?_
      simp only [ex]
      refine c_told (preal_ret m w1) rfl h1 fun w2 h2 => ?_
      simp only [ex]
      refine c_told (rreal_ret m w2) rfl h2 fun w3 h3 => ?_
      simp only [ex]
      refine c_told (pstr_ret s w3 (by omega)) rfl h3 fun w4 h4 => ?_
      simp only [ex]
      refine c_told (rstr_ret s w4 (by omega)) rfl h4 fun w5 h5 => ?_
      simp only [ex]
      refine c_told (phex_ret s w5 (by omega)) rfl h5 fun w6 h6 => ?_
      simp only [ex]
      refine c_told (rhexs_ret s w6 (by omega)) rfl h6 fun w7 h7 => ?_
      simp only [ex]
      refine c_told (pname_ret t w7) rfl h7 fun w8 h8 => ?_
      simp only [ex]
      refine c_told (rname_ret t w8) rfl h8 fun w9 h9 => ?_
      simp only [ex, rs, gs, eq_self, decide_true]
      refine c_told (pjoin_ret ps pv w9 (h9.oldSl hp) (by omega)) rfl h9 fun w10 h10 => ?_
      refine c_eq (rjoin_ret ps pv w10 (h10.oldSl hp) (by omega)) ?_
      simp only [rs, gs, eq_self, decide_true]
      refine c_told (ppad_ret a k ha.1 ha.2 hk.1 hk.2 w10 (ht.own h10)) rfl h10 fun w11 h11 => ?_
      refine c_eq (rpad_ret a k ha.1 ha.2 w11) ?_
      simp only [rs, gs, eq_self, decide_true]
      refine c_ret (plives_ret w11 (ht.own h11)) ?_
      rintro v w12 ⟨rfl, hb⟩
      exact hK _ _ ⟨rfl, (h11.grow hb).done⟩
  simp +contextual only [s_len Tryd.underlying9, sl_len Tryd.underlying37 hp, rs, gs]
  cases hc : ((((decide ((3000 : Int) < (s.length : Int)) && decide ((s.length : Int) < 32000)) || decide ((33000 : Int) < (s.length : Int))) || decide ((300 : Int) < (t.length : Int))) || decide ((40 : Int) < (ps.length : Int))) with
  | true => simp only [i_t]; exact lives w (Below.refl _ _)
  | false =>
    simp only [i_f]
    simp only [Bool.or_eq_false_iff, Bool.and_eq_false_iff, decide_eq_false_iff_not] at hc
    exact main (by omega) (by omega) (by omega)
end Go.Proofs.YtfnpfbgnhncgpaaDoor
