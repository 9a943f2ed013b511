/- Contracts: Read, of the reference and of the program. -/
import Derived.Test.YtfnpfbgnhncgpaaDoorFixU
namespace Go.Proofs.YtfnpfbgnhncgpaaDoor
set_option linter.unusedVariables false
set_option linter.unusedSimpArgs false
set_option linter.defProp false
open Eng Go.RowKit
set_option linter.unusedVariables false
set_option linter.unusedSimpArgs false

theorem ans_out {x : Int} (h : 1073741824 < x ∨ x < -1073741824) : Fx.ans x = (0, 2) := by
  have : Fx.okB x = false := by simp [Fx.okB]; omega
  rw [Fx.ans, this]; rfl
theorem form_parts {s : List UInt8} (h : Fx.form s = true) : s.length ≤ 40 ∧ (Fx.whole (Fx.body s)).all Fx.isDig = true ∧ (Fx.part (Fx.body s)).all Fx.isDig = true := by
  simp only [Fx.form, Bool.and_eq_true, decide_eq_true_eq] at h
  exact ⟨h.1.1.1, h.1.1.2, h.1.2⟩
/-- The reference's capped value answers alike. -/
theorem read_ref {s : List UInt8} (h : Fx.form s = true) : Fx.ans (if Fx.minus s then -(Fx.cap 0 (Fx.whole (Fx.body s) ++ Fx.four (Fx.part (Fx.body s))) + (if Fx.more ((Fx.part (Fx.body s)).drop 4) (Fx.minus s) then 1 else 0))
    else Fx.cap 0 (Fx.whole (Fx.body s) ++ Fx.four (Fx.part (Fx.body s))) + (if Fx.more ((Fx.part (Fx.body s)).drop 4) (Fx.minus s) then 1 else 0)) = Fx.read s := by
  obtain ⟨_, hw, hp⟩ := form_parts h
  have hall : (Fx.whole (Fx.body s) ++ Fx.four (Fx.part (Fx.body s))).all Fx.isDig = true := by rw [List.all_append, hw, Fx.four_all hp]; rfl
  rw [Fx.read, if_pos h, Fx.mag, Fx.cap_eq _ 0 0 hall (by omega) (by omega), Fx.val_append]
  have h1 := Fx.val_ge _ 0 hw (by omega)
  have h2 := Fx.val4 (Fx.four (Fx.part (Fx.body s))) (Fx.val 0 (Fx.whole (Fx.body s))) (Fx.four_length _) (Fx.four_all hp)
  generalize Fx.val 0 (Fx.whole (Fx.body s)) = W at *
  generalize Fx.val W (Fx.four (Fx.part (Fx.body s))) = V at *
  have hm : ∀ x : Bool, 0 ≤ (if x then (1 : Int) else 0) ∧ (if x then (1 : Int) else 0) ≤ 1 := by intro x; cases x <;> simp
  have hm' := hm (Fx.more ((Fx.part (Fx.body s)).drop 4) (Fx.minus s))
  generalize (if Fx.more ((Fx.part (Fx.body s)).drop 4) (Fx.minus s) then (1 : Int) else 0) = e at *
  by_cases hW : W > 1073741824
  · rw [if_pos hW]
    split <;> exact ans_out (by omega)
  · rw [if_neg hW]
    by_cases hV : V ≤ 1099511627776
    · rw [show min V 1099511627776 = V by omega]
    · split
      · rw [ans_out (x := -(min V 1099511627776 + e)) (by omega), ans_out (by omega)]
      · rw [ans_out (x := (min V 1099511627776 + e)) (by omega), ans_out (by omega)]

theorem rread_ret (s : List UInt8) (w : World) (hs : s.length ≤ 4611686018427387904) : Ret Tryd.prog 19 #[.string ⟨s.toArray⟩] w (fun v w' => v = pair (Fx.read s) ∧ Below w.heap.size w w') := by
  refine ret_of fun K hK => S_foliantref02_Read_ok ?_
  unfold S_foliantref02_Read
  refine c_ret (form_ret s w hs) ?_
  rintro v w1 ⟨⟨a, b, m, rfl, hf⟩, rfl⟩
  simp only [ex, rs]
  by_cases ho : Fx.form s = true
  · obtain ⟨rfl, rfl, rfl⟩ := hf ho
    obtain ⟨h40, hw, hp⟩ := form_parts ho
    have hbl : (Fx.body s).length ≤ s.length := by
      cases s with
      | nil => simp [Fx.body]
      | cons c t => rw [Fx.body]; split <;> simp
    have hwl : (Fx.whole (Fx.body s)).length ≤ (Fx.body s).length := by
      have := (List.takeWhile_sublist (fun c => c != 46) (l := Fx.body s)).length_le; exact this
    have hpl : (Fx.part (Fx.body s)).length ≤ (Fx.body s).length := by
      have := (List.dropWhile_sublist (fun c => c != 46) (l := Fx.body s)).length_le
      rw [Fx.part, List.length_drop]; omega
    have href := read_ref ho
    rw [ho]
    simp only [rs]
    have hall : (Fx.whole (Fx.body s) ++ Fx.four (Fx.part (Fx.body s))).all Fx.isDig = true := by rw [List.all_append, hw, Fx.four_all hp]; rfl
    rw [s_add (b := [48, 48, 48, 48]) (by simp; omega), s_upto Tryd.underlying9 (by omega) (by simp; omega)]
    change DoX _ (mBin .add _ _ (.string ⟨(Fx.four (Fx.part (Fx.body s))).toArray⟩)) _ _ _
    rw [s_add (by rw [Fx.four_length]; omega)]
    have hal : (Fx.whole (Fx.body s) ++ Fx.four (Fx.part (Fx.body s))).length ≤ 44 := by rw [List.length_append, Fx.four_length]; omega
    generalize Fx.whole (Fx.body s) ++ Fx.four (Fx.part (Fx.body s)) = all at *
    generalize Fx.part (Fx.body s) = part at *
    generalize Fx.minus s = neg at *
    refine loop (fun vs w' => ∃ k : Nat, k ≤ all.length ∧ vs = [.int .i64 (Fx.cap 0 (all.take k)), .int .i64 k] ∧ w = w') (fun vs _ => all.length - n1 vs) ⟨0, by omega, rfl, rfl⟩ ?_
    rintro vs w' ⟨k, hk, rfl, rfl⟩ _
    simp only [S_foliantref02_Read_0, gd, s_len Tryd.underlying9, rs]
    have hcb := Fx.cap_bd (all.take k) (by
      rw [List.all_eq_true] at hall ⊢
      exact fun x hx => hall x (List.mem_of_mem_take hx))
    by_cases hlt : k < all.length
    · have hlt' : (k : Int) < (all.length : Int) := by omega
      have hdg := Fx.isDig_bd (List.all_eq_true.1 hall all[k] (List.getElem_mem hlt))
      simp only [hlt', decide_true, rs]
      rw [s_ix (c := all[k]) Tryd.underlying9 (by omega) (by rw [Int.toNat_natCast]; exact List.getElem?_eq_getElem hlt)]
      simp only [rs]
      rw [wrap8_id (by omega) (by omega), c_int (show (Tryd.prog.underlying 5).isSome = true by kernel_rfl) Tryd.underlying2]
      simp only [rs, m_min]
      rw [wrap64_id (n := ((all[k].toNat : Nat) : Int) - 48) (by omega) (by omega), wrap64_id (n := 10 * _) (by omega) (by omega), wrap64_id (by omega) (by omega), wrap64_id (by omega) (by omega)]
      refine nextX ⟨k + 1, by omega, ?_, rfl⟩ (by simp [n1, intOf]; omega)
      rw [Fx.cap_take 0 all k hlt]; rfl
    · have hlt' : ¬ (k : Int) < (all.length : Int) := by omega
      simp only [hlt', decide_false, rs]
      rw [List.take_of_length_le (by omega)] at hcb ⊢
      generalize Fx.cap 0 all = n at *
      refine join fun J0 hJ0 => ?_
      have afterMore : ∀ b : Bool, b = Fx.more (part.drop 4) neg → S_foliantref02_Read_3 (.bool neg) (.int .i64 n) (.bool b) w K := by
        intro b hb
        subst hb
        rw [S_foliantref02_Read_3]
        refine join fun J3 hJ3 => ?_
        have h5 : ∀ m : Int, 0 ≤ m → m ≤ 1099511627777 → m = n + (if Fx.more (part.drop 4) neg then 1 else 0) → S_foliantref02_Read_4 (.bool neg) (.int .i64 m) w K := by
          intro m m0 m1 hm
          rw [S_foliantref02_Read_4]
          refine join fun J4 hJ4 => ?_
          have h6 : ∀ q : Int, q = (if neg then -m else m) → S_foliantref02_Read_5 (.int .i64 q) w K := by
            intro q hq
            rw [S_foliantref02_Read_5]
            refine c_ret (rwithin_ret q w) ?_
            rintro v w4 ⟨rfl, rfl⟩
            have hres : Fx.read s = Fx.ans q := by rw [← href, hq, hm]
            cases hq2 : Fx.okB q with
            | true =>
              simp only [rs]
              refine hK _ _ ⟨?_, Below.refl _ _⟩
              rw [hres, Fx.ans, hq2]; rfl
            | false =>
              simp only [rs]
              refine hK _ _ ⟨?_, Below.refl _ _⟩
              rw [hres, Fx.ans, hq2]; rfl
          cases neg with
          | true =>
            simp only [rs]
            rw [wrap64_id (by omega) (by omega)]
            refine hJ4 _ _ fun _ => ?_
            exact h6 (-m) rfl
          | false =>
            simp only [rs]
            refine hJ4 _ _ fun _ => ?_
            exact h6 m rfl
        cases hmo : Fx.more (part.drop 4) neg with
        | true =>
          simp only [rs]
          rw [wrap64_id (by omega) (by omega)]
          refine hJ3 _ _ fun _ => ?_
          exact h5 (n + 1) (by omega) (by omega) (by rw [hmo]; rfl)
        | false =>
          simp only [rs]
          refine hJ3 _ _ fun _ => ?_
          exact h5 n (by omega) (by omega) (by rw [hmo]; simp)
      have h1 : ∀ rest : List UInt8, rest = part.drop 4 → S_foliantref02_Read_1 (.bool neg) (.int .i64 n) (.string ⟨rest.toArray⟩) w K := by
        intro rest hr
        rw [← hr] at afterMore
        have hrl : rest.length ≤ 40 := by rw [hr, List.length_drop]; omega
        simp only [S_foliantref02_Read_1, rs]
        cases rest with
        | nil =>
          simp only [ne_eq, not_true_eq_false, decide_false, rs, g_un]
          refine join fun J2 hJ2 => ?_
          refine hJ2 _ _ fun _ => ?_
          exact afterMore false rfl
        | cons c t =>
          have hix : (c :: t)[(0 : Int).toNat]? = some c := rfl
          simp only [ne_eq, reduceCtorEq, not_false_eq_true, decide_true, rs, s_ix Tryd.underlying9 (show (0 : Int) ≤ 0 by omega) hix]
          refine join fun J2 hJ2 => ?_
          by_cases h5 : (53 : Int) ≤ (c.toNat : Int)
          · simp only [h5, decide_true, rs]
            have h5' : decide (53 ≤ c.toNat) = true := by simp; omega
            cases neg with
            | false =>
              simp only [rs]
              refine hJ2 _ _ fun _ => ?_
              exact afterMore true (by rw [Fx.more, h5']; rfl)
            | true =>
              simp only [rs, s_ix Tryd.underlying9 (show (0 : Int) ≤ 0 by omega) hix]
              refine loop (fun vs w' => ∃ j : Nat, j ≤ t.length ∧ vs = [.bool (decide (53 < c.toNat) || (t.take j).any (fun c => decide (48 < c.toNat))), .int .i64 ((j : Int) + 1)] ∧ w = w') (fun vs _ => t.length + 1 - n1 vs) ⟨0, by omega, by simp; omega, rfl⟩ ?_
              rintro vs w' ⟨j, hj, rfl, rfl⟩ _
              simp only [S_foliantref02_Read_2, gd, s_len Tryd.underlying9, rs]
              have hlc : ((c :: t).length : Int) = (t.length : Int) + 1 := by simp
              have hjx : (c :: t)[((j : Int) + 1).toNat]? = t[j]? := by rw [show ((j : Int) + 1).toNat = j + 1 by omega]; rfl
              rw [hlc]
              by_cases hjt : j < t.length
              · have hjt' : (j : Int) + 1 < (t.length : Int) + 1 := by omega
                have hjx2 : (c :: t)[((j : Int) + 1).toNat]? = some t[j] := by rw [hjx]; exact List.getElem?_eq_getElem hjt
                have htk : (t.take (j + 1)).any (fun c => decide (48 < c.toNat)) = ((t.take j).any (fun c => decide (48 < c.toNat)) || decide (48 < t[j].toNat)) := by
                  rw [List.take_succ_eq_append_getElem hjt, List.any_append]; simp
                simp only [hjt', decide_true, rs]
                cases hb : (decide (53 < c.toNat) || (t.take j).any (fun c => decide (48 < c.toNat))) with
                | true =>
                  simp only [rs, g_un]
                  rw [wrap64_id (by omega) (by omega)]
                  refine nextX ⟨j + 1, by omega, ?_, rfl⟩ (by simp [n1, intOf]; omega)
                  rw [htk, ← Bool.or_assoc, hb]; rfl
                | false =>
                  simp only [rs, s_ix Tryd.underlying9 (show (0 : Int) ≤ (j : Int) + 1 by omega) hjx2]
                  rw [wrap64_id (by omega) (by omega)]
                  refine nextX ⟨j + 1, by omega, ?_, rfl⟩ (by simp [n1, intOf]; omega)
                  rw [htk, ← Bool.or_assoc, hb, Bool.false_or]
                  have : decide ((48 : Int) < (t[j].toNat : Int)) = decide (48 < t[j].toNat) := by rw [decide_eq_decide]; omega
                  rw [this]; simp
              · have hjt' : ¬ (j : Int) + 1 < (t.length : Int) + 1 := by omega
                simp only [hjt', decide_false, rs]
                refine hJ2 _ _ fun _ => ?_
                refine afterMore _ ?_
                rw [Fx.more, h5', List.take_of_length_le (by omega)]; rfl
          · simp only [h5, decide_false, rs, g_un]
            have h5' : decide (53 ≤ c.toNat) = false := by simp; omega
            refine hJ2 _ _ fun _ => ?_
            exact afterMore false (by rw [Fx.more, h5']; rfl)
      by_cases h4 : (4 : Int) < (part.length : Int)
      · simp only [h4, decide_true, rs]
        rw [s_from Tryd.underlying9 (by omega) (by omega)]
        refine hJ0 _ _ fun _ => ?_
        exact h1 (part.drop 4) rfl
      · simp only [h4, decide_false, rs]
        refine hJ0 _ _ fun _ => ?_
        exact h1 [] (List.drop_eq_nil_of_le (by omega)).symm
  · have ho' : Fx.form s = false := by simpa using ho
    rw [ho']
    simp only [rs]
    exact hK _ _ ⟨by rw [Fx.read, if_neg ho], Below.refl _ _⟩
end Go.Proofs.YtfnpfbgnhncgpaaDoor
