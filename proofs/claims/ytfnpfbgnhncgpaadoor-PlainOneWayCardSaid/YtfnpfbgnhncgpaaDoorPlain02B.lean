/- Plain mathematics of layer 2: Read reverses Text. -/
import Derived.Test.YtfnpfbgnhncgpaaDoorPlain02R
namespace Go.Proofs.YtfnpfbgnhncgpaaDoor
set_option linter.unusedVariables false
set_option linter.unusedSimpArgs false
set_option linter.defProp false
namespace Fx
open Go

theorem dg_dig {k : Nat} (h : k < 10) : isDig (dg k) = true := by
  have := dg_toNat h
  simp [isDig]; omega
theorem rowF_all : ∀ (f n least : Nat) (s : List UInt8), s.all isDig = true → (rowF f n least s).all isDig = true
  | 0, n, least, s, h => h
  | f + 1, n, least, s, h => by
    rw [rowF]
    split
    · exact rowF_all f _ least _ (by rw [List.all_cons, dg_dig (Nat.mod_lt _ (by omega)), h]; rfl)
    · exact h
theorem row_all (n least : Nat) : (row n least).all isDig = true := rowF_all 64 n least [] rfl
theorem val_pow : ∀ (l : List UInt8) (n : Int), val n l = n * 10 ^ l.length + val 0 l
  | [], n => by simp [val_nil]
  | c :: t, n => by
    rw [val_cons, val_cons, val_pow t (10 * n + _), val_pow t (10 * 0 + _), List.length_cons, Int.pow_succ]
    generalize (10 : Int) ^ t.length = p
    generalize ((c.toNat : Int) - 48) = d
    rw [Int.add_mul, Int.mul_zero, Int.zero_add, ← Int.add_assoc, Int.mul_comm 10 n, Int.mul_assoc, Int.mul_comm p 10]
theorem rowF_val : ∀ (f n least : Nat) (s : List UInt8), n < 10 ^ f → val 0 (rowF f n least s) = (n : Int) * 10 ^ s.length + val 0 s
  | 0, n, least, s, h => by
    have : n = 0 := by simpa using h
    subst this
    simp [rowF]
  | f + 1, n, least, s, h => by
    rw [rowF]
    split
    · rw [rowF_val f (n / 10) least _ (by rw [Nat.pow_succ] at h; omega), List.length_cons, Int.pow_succ]
      have e : val 0 (dg (n % 10) :: s) = ((n % 10 : Nat) : Int) * 10 ^ s.length + val 0 s := by
        have := dg_toNat (k := n % 10) (Nat.mod_lt _ (by omega))
        rw [val_cons, val_pow]
        congr 2
        omega
      rw [e]
      generalize (10 : Int) ^ s.length = p
      rw [← Int.add_assoc, Int.mul_comm p 10, ← Int.mul_assoc, ← Int.add_mul]
      congr 2
      omega
    · have : n = 0 := by omega
      subst this; simp
theorem row_val (n least : Nat) (h : n < 10 ^ 64) : val 0 (row n least) = n := by
  rw [row, rowF_val 64 n least [] h]; simp [val_nil]
theorem rowF_le : ∀ (f n least k : Nat) (s : List UInt8), n < 10 ^ k → least ≤ s.length + k → (rowF f n least s).length ≤ s.length + k
  | 0, n, least, k, s, _, _ => by simp [rowF]
  | f + 1, n, least, k, s, h1, h2 => by
    rw [rowF]
    split
    · rename_i hc
      cases k with
      | zero => simp only [Nat.pow_zero] at h1; omega
      | succ k =>
        have := rowF_le f (n / 10) least k (dg (n % 10) :: s) (by rw [Nat.pow_succ] at h1; omega) (by simp only [List.length_cons]; omega)
        simp only [List.length_cons] at this; omega
    · omega
theorem rowF_ge : ∀ (f n least : Nat) (s : List UInt8), least ≤ s.length + f → least ≤ (rowF f n least s).length
  | 0, n, least, s, h => by simpa [rowF] using h
  | f + 1, n, least, s, h => by
    rw [rowF]
    split
    · exact rowF_ge f _ least _ (by simp only [List.length_cons]; omega)
    · omega
theorem row4 (n : Nat) (h : n < 10000) : (row n 4).length = 4 := by
  have h1 := rowF_le 64 n 4 4 [] (by omega) (by simp)
  have h2 := rowF_ge 64 n 4 [] (by simp)
  simp only [row, List.length_nil] at *
  omega
theorem row1 (n : Nat) (h : n < 10000000) : (row n 1).length ≤ 7 := by
  have h1 := rowF_le 64 n 1 7 [] (by omega) (by simp)
  simpa [row] using h1
theorem tr_rep : ∀ l : List UInt8, tr l ++ List.replicate (l.length - (tr l).length) 48 = l
  | [] => rfl
  | c :: t => by
    have ih := tr_rep t
    rw [tr_cons]
    by_cases ht : tr t = []
    · rw [if_pos ht]
      rw [ht] at ih
      simp only [List.nil_append, List.length_nil, Nat.sub_zero] at ih
      by_cases hc : c = 48
      · subst hc
        rw [if_pos rfl]
        simp only [List.nil_append, List.length_nil, Nat.sub_zero, List.length_cons, List.replicate_succ]
        rw [ih]
      · rw [if_neg hc]
        simp only [List.length_cons, List.length_nil, Nat.add_sub_cancel, List.cons_append, List.nil_append]
        rw [ih]
    · rw [if_neg ht]
      simp only [List.length_cons, List.cons_append, Nat.add_sub_add_right]
      rw [ih]
theorem fpart_rep (n : Nat) : ∃ j, j ≤ 1 ∧ fpart n = tr (row (n % 10000) 4) ++ List.replicate j 48 := by
  unfold fpart
  split
  · rename_i h; exact ⟨1, by omega, by rw [h]; rfl⟩
  · exact ⟨0, by omega, by simp⟩
theorem rep_all (k : Nat) : (List.replicate k (48 : UInt8)).all isDig = true := by
  rw [List.all_eq_true]; intro x hx; rw [(List.mem_replicate.1 hx).2]; rfl
theorem tr_all {l : List UInt8} (h : l.all isDig = true) : (tr l).all isDig = true := by
  have := tr_rep l
  rw [← this, List.all_append, Bool.and_eq_true] at h
  exact h.1
theorem four_tr (R : List UInt8) (h : R.length = 4) (i : Nat) : four (tr R ++ List.replicate i 48) = R := by
  have hr := tr_rep R
  have hl := tr_len R
  rw [h] at hr hl
  unfold four
  rw [show ([48, 48, 48, 48] : List UInt8) = List.replicate 4 48 from rfl, List.append_assoc, List.replicate_append_replicate]
  rw [show i + 4 = (4 - (tr R).length) + (i + (tr R).length) by omega, ← List.replicate_append_replicate, ← List.append_assoc, hr]
  rw [List.take_append_of_le_length (by omega), List.take_of_length_le (by omega)]
theorem more_rep (k : Nat) (b : Bool) : more (List.replicate k 48) b = false := by
  cases k with
  | zero => rfl
  | succ k => rw [List.replicate_succ, more]; rfl
theorem more_drop (R : List UInt8) (h : R.length = 4) (i : Nat) (b : Bool) : more ((tr R ++ List.replicate i 48).drop 4) b = false := by
  have hl := tr_len R
  rw [List.drop_append, List.drop_eq_nil_of_le (by omega), List.nil_append, List.drop_replicate]
  exact more_rep _ _
theorem ne46 {c : UInt8} (h : isDig c = true) : (c != 46) = true := by
  have := isDig_bd h
  simp only [bne_iff_ne, ne_eq]
  intro e; subst e; simp at this
theorem whole_cat : ∀ (D P : List UInt8), D.all isDig = true → whole (D ++ 46 :: P) = D ∧ part (D ++ 46 :: P) = P
  | [], P, _ => by simp [whole, part]
  | c :: t, P, h => by
    simp only [List.all_cons, Bool.and_eq_true] at h
    have ih := whole_cat t P h.2
    have := ne46 h.1
    simp only [whole, part, List.cons_append, List.takeWhile_cons, List.dropWhile_cons, this, if_true] at ih ⊢
    exact ⟨by rw [ih.1], ih.2⟩
/-- What a text of that shape reads as. -/
theorem read_shape {s D R : List UInt8} {i : Nat} {neg : Bool} {N : Nat} (hb : body s = D ++ 46 :: (tr R ++ List.replicate i 48)) (hm : minus s = neg) (hl : s.length ≤ 40) (hD : D.all isDig = true) (hD1 : 1 ≤ D.length) (hR : R.all isDig = true) (hR4 : R.length = 4)
    (hv : val 0 D = ((N / 10000 : Nat) : Int)) (hv2 : val 0 R = ((N % 10000 : Nat) : Int)) (hN : N ≤ 1073741824) : read s = (if neg then -(N : Int) else N, 0) := by
  obtain ⟨e1, e2⟩ := whole_cat D (tr R ++ List.replicate i 48) hD
  have hf : form s = true := by
    rw [form, hb, e1, e2, hD, List.all_append, tr_all hR, rep_all, decide_eq_true hl, decide_eq_true (by omega)]; rfl
  have hmag : mag s = N := by
    rw [mag, hb, e1, e2, four_tr R hR4, more_drop R hR4, val_pow, hR4, hv, hv2]
    simp only [Bool.false_eq_true, if_false]
    omega
  rw [read, if_pos hf, hb, e1, hv, if_neg (by omega), hm, hmag, ans]
  cases neg with
  | true => simp only [if_true]; rw [if_pos (by simp [okB]; omega)]
  | false => simp only [Bool.false_eq_true, if_false]; rw [if_pos (by simp [okB]; omega)]
theorem head_dig {D : List UInt8} (h : D.all isDig = true) (h1 : 1 ≤ D.length) (t : List UInt8) : body (D ++ t) = D ++ t ∧ minus (D ++ t) = false := by
  cases D with
  | nil => simp at h1
  | cons c d =>
    simp only [List.all_cons, Bool.and_eq_true] at h
    have hb := isDig_bd h.1
    have h45 : c ≠ 45 := by intro e; subst e; simp at hb
    have h43 : c ≠ 43 := by intro e; subst e; simp at hb
    exact ⟨by rw [List.cons_append, body, if_neg (by simp [h45, h43])], by rw [List.cons_append, minus, decide_eq_false h45]⟩
theorem read_text (n : Int) (h : okB n = true) (k : Nat) (hk : k ≤ 3) : read (text n ++ List.replicate k 48) = (n, 0) ∧ (0 ≤ n → read ([43, 48] ++ text n) = (n, 0)) := by
  have hn : -1073741824 ≤ n ∧ n ≤ 1073741824 := by simpa [okB] using h
  obtain ⟨j, hj, hfp⟩ := fpart_rep n.natAbs
  have hR4 := row4 (n.natAbs % 10000) (by omega)
  have hRa := row_all (n.natAbs % 10000) 4
  have hDa := row_all (n.natAbs / 10000) 1
  have hD7 := row1 (n.natAbs / 10000) (by omega)
  have hD1 := row_pos (n.natAbs / 10000) 1 (by omega)
  have hv := row_val (n.natAbs / 10000) 1 (by omega)
  have hv2 := row_val (n.natAbs % 10000) 4 (by omega)
  have htl := tr_len (row (n.natAbs % 10000) 4)
  rw [text, if_pos h, hfp]
  generalize row (n.natAbs / 10000) 1 = D at *
  generalize row (n.natAbs % 10000) 4 = R at *
  constructor
  · by_cases hneg : n < 0
    · have e : (if n < 0 then ([45] : List UInt8) else []) ++ D ++ [46] ++ (tr R ++ List.replicate j 48) ++ List.replicate k 48 = 45 :: (D ++ 46 :: (tr R ++ List.replicate (j + k) 48)) := by
        rw [if_pos hneg, ← List.replicate_append_replicate]; simp
      rw [e, read_shape (N := n.natAbs) (D := D) (R := R) (i := j + k) (neg := true) (by rw [body, if_pos (.inl rfl)]) rfl (by simp; omega) hDa hD1 hRa hR4 hv hv2 (by omega)]
      simp only [if_true, Prod.mk.injEq, and_true]; omega
    · have e : (if n < 0 then ([45] : List UInt8) else []) ++ D ++ [46] ++ (tr R ++ List.replicate j 48) ++ List.replicate k 48 = D ++ 46 :: (tr R ++ List.replicate (j + k) 48) := by
        rw [if_neg hneg, ← List.replicate_append_replicate]; simp
      obtain ⟨b1, b2⟩ := head_dig hDa hD1 (46 :: (tr R ++ List.replicate (j + k) 48))
      rw [e, read_shape (N := n.natAbs) (D := D) (R := R) (i := j + k) (neg := false) b1 b2 (by simp; omega) hDa hD1 hRa hR4 hv hv2 (by omega)]
      simp only [Bool.false_eq_true, if_false, Prod.mk.injEq, and_true]; omega
  · intro h0
    have e : ([43, 48] : List UInt8) ++ ((if n < 0 then ([45] : List UInt8) else []) ++ D ++ [46] ++ (tr R ++ List.replicate j 48)) = 43 :: ((48 :: D) ++ 46 :: (tr R ++ List.replicate j 48)) := by
      rw [if_neg (by omega)]; simp
    rw [e, read_shape (N := n.natAbs) (D := 48 :: D) (R := R) (i := j) (neg := false) (by rw [body, if_pos (.inr rfl)]) rfl (by simp; omega) (by rw [List.all_cons, hDa]; rfl) (by simp) hRa hR4 (by rw [val_cons]; simpa using hv) hv2 (by omega)]
    simp only [Bool.false_eq_true, if_false, Prod.mk.injEq, and_true]; omega
end Fx
end Go.Proofs.YtfnpfbgnhncgpaaDoor
